/- The functions' code comes to what the plain functions say (3). -/
import Derived.Test.YtpddolihbnfahaaXCH2
set_option linter.unusedVariables false
set_option linter.unusedSimpArgs false
set_option maxRecDepth 100000
namespace Go.Proofs.Ytpddolihbnfahaa.X
open Go
open Nat (reduceEqDiff)
theorem qm4 {W:Nat→Bool}{h:Heap}{lo:Nat→Prop}{S0:List Obj} (hW:∀ b,
  lo b→W b=true) (k:Nat) (v_0:Election) (pv0_0:XV) (pc0_0:List Obj) (ph0_0:SlN Server.R 6 46 pv0_0 v_0.Servers pc0_0) (pv0_1:XV) (pc0_1:List Obj)
  (ph0_1:SlF qe 7 93 pv0_1 v_0.Post pc0_1) (pv0_2:XV) (pc0_2:List Obj) (ph0_2:SlF ql 2 39 pv0_2 v_0.Led pc0_2) (v_1:Letter) (r:Election)
  (hF:qel k v_0 v_1=some r) (hS:Sep h lo (pc0_0++(pc0_1++(pc0_2++(S0))))) : Ret E W 98 [.agg [pv0_0,pv0_1,pv0_2],.agg [.int .i64 v_1.To,
  .int .i64 v_1.From,.int .i64 v_1.Term,.bool v_1.Asks,.int .i64 v_1.Last,.int .i64 v_1.Long,.bool v_1.Grant]] h (fun v h'=>∃ rc0_0 rv0_1 rc0_1 rv0_2 rc0_2,
  v = .agg [pv0_0,rv0_1,rv0_2]∧SlN Server.R 6 46 pv0_0 r.Servers rc0_0∧SlF qe 7 93 rv0_1 r.Post rc0_1∧SlF ql 2 39 rv0_2 r.Led rc0_2∧Sep h' lo
  (rc0_0++(rc0_1++(rc0_2++(S0))))):=by
 refine Ret.of (fn:=x98) rfl (Run.of ?_)
 unfold qel at hF
 have zf0:zh [.agg [pv0_0,pv0_1,pv0_2],.agg [.int .i64 v_1.To,.int .i64 v_1.From,.int .i64 v_1.Term,.bool v_1.Asks,.int .i64 v_1.Last,.int .i64 v_1.Long,
   .bool v_1.Grant]] 0 = .agg [pv0_0,pv0_1,pv0_2]:=rfl
 have zf1:zh [.agg [pv0_0,pv0_1,pv0_2],.agg [.int .i64 v_1.To,.int .i64 v_1.From,.int .i64 v_1.Term,.bool v_1.Asks,.int .i64 v_1.Last,.int .i64 v_1.Long,
   .bool v_1.Grant]] 1 = .agg [.int .i64 v_1.To,.int .i64 v_1.From,.int .i64 v_1.Term,.bool v_1.Asks,.int .i64 v_1.Last,.int .i64 v_1.Long,.bool v_1.Grant]:=rfl
 generalize zh [.agg [pv0_0,pv0_1,pv0_2],.agg [.int .i64 v_1.To,.int .i64 v_1.From,.int .i64 v_1.Term,.bool v_1.Asks,.int .i64 v_1.Last,.int .i64 v_1.Long,
   .bool v_1.Grant]]=fr0 at zf0 zf1 ⊢
 simp only [x98,qg,qf,kc,zf0,B0,reduceIte,reduceEqDiff]
 refine jo (cs:=[pv0_0,pv0_1,pv0_2]) hS rfl rfl (qq (SlN.one ph0_0) (qq (SlF.one ph0_1) (qq (SlF.one ph0_2) zo))) (fun b1 h2 hS3=>?_)
 simp only [kc,zf1,B0,reduceIte,reduceEqDiff]
 refine jo (cs:=[.int .i64 v_1.To,.int .i64 v_1.From,.int .i64 v_1.Term,.bool v_1.Asks,.int .i64 v_1.Last,.int .i64 v_1.Long,
   .bool v_1.Grant]) hS3 rfl rfl rfl (fun b5 h6 hS7=>?_)
 simp only [jg,B0,reduceIte,reduceEqDiff]
 refine zw hS7 (fun b9 h10 hS11=>?_)
 simp only [qa,B0,reduceIte,reduceEqDiff]
 refine zy (Sep.m1 hS11) hW (by simp only [B0,reduceIte,reduceEqDiff]) (fun h13 hS14=>?_)
 simp only [zv,qtf,qg,qf,qt,qb,Nat.reduceAdd,Nat.zero_add,Nat.add_zero,q8,qo,B0,reduceIte,reduceEqDiff]
 refine qh (v:=pv0_0) ((jh (Sep.bk _ _ _ (Sep.m1 hS14))).trans rfl) ?_
 simp only [qt,qb,Nat.reduceAdd,Nat.zero_add,Nat.add_zero,qu,qo,B0,reduceIte,reduceEqDiff]
 refine qh (v := .int .i64 v_1.To) rfl ?_
 obtain ⟨x15,hx16,hF17⟩:=qj hF
 simp only [jr,B0,reduceIte,reduceEqDiff]
 obtain ⟨b18,hb19⟩:=SlN.isrow ph0_0 (wg hx16)
 refine qh (SlN.ia ph0_0 hb19 hx16) ?_
 obtain ⟨c20,cs21,os22,hv23,hR24,hS25⟩:=SlG.opn (SlN.toG ph0_0 hb19 Server.RO.len) hx16 ju Server.RO.len (Sep.m2 hS14)
 obtain ⟨v27,c28,v31,c32,hv29,hv33,rfl,rfl⟩:=hR24
 have hS26:=Sep.no2 hS25
 simp only [qo,B0,reduceIte,reduceEqDiff]
 refine qh (v := .agg [.int .i64 x15.Term,.int .i64 x15.Voted,.bool x15.Stands,.bool x15.Leads,v27,v31]) ((SlG.lds (o:=0) hv23 rfl hx16 hS26 (nle rfl)).trans rfl) ?_
 simp only [jg,B0,reduceIte,reduceEqDiff]
 refine zw hS26 (fun b35 h36 hS37=>?_)
 simp only [zl,B0,reduceIte,reduceEqDiff]
 refine q9 (us:=[.int .i64 x15.Term,.int .i64 x15.Voted,.bool x15.Stands,.bool x15.Leads,v27,v31]) rfl (cs':=[.int .i64 x15.Term,.int .i64 x15.Voted,
   .bool x15.Stands,.bool x15.Leads,v27,
   v31]) hS37 hW rfl (qq rfl (qq rfl (qq rfl (qq rfl (qq (SlF.one hv29) (qq (SlF.one hv33) zo)))))) (nle rfl) rfl (fun h39 hS40=>?_)
 simp only [qa,qtg,qg,qf,qt,qb,Nat.reduceAdd,Nat.zero_add,Nat.add_zero,qu,qo,B0,reduceIte,reduceEqDiff]
 refine qh (v := .int .i64 v_1.Term) rfl ?_
 simp only [qt,qb,Nat.reduceAdd,Nat.zero_add,Nat.add_zero,q8,qo,B0,reduceIte,reduceEqDiff]
 refine qh (v := .int .i64 x15.Term) ((jh (Sep.bk _ _ _ hS40)).trans rfl) ?_
 simp only [qx,qb,xb,qa,q1y,ze,B0,reduceIte,reduceEqDiff]
 obtain ⟨s41,hX47,hk48⟩:=qj hF17
 refine uq (t:=(decide (x15.Term<v_1.Term))) (fun fr' h'=>∃ v43 c44,fr' 2 = .ptr b1 0∧fr' 3 = .ref [.int .i64 v_1.To,.int .i64 v_1.From,.int .i64 v_1.Term,
   .bool v_1.Asks,.int .i64 v_1.Last,.int .i64 v_1.Long,
   .bool v_1.Grant] 0∧fr' 4 = .ptr b9 0∧fr' 5 = .ptr b35 0∧SlF cI 1 3 v43 s41.Got c44∧Sep h' lo ([Blk1 b1 [pv0_0,pv0_1,pv0_2] 31]++([Blk1 b9 [.nil,.nil,
   .nil] 31]++([Blk1 b35 [.int .i64 s41.Term,.int .i64 s41.Voted,.bool s41.Stands,.bool s41.Leads,v43,
   v31] 46]++(c20++(pc0_1++(pc0_2++(c44++(c32++(S0)))))))))) (fun Q49 hN50 hR51 hE52=>⟨fun hc53=>?_,fun hc53=>?_⟩) ?_
 ·rw [iteT hc53] at hX47
  simp only [qz0,qg,qf,qt,qb,Nat.reduceAdd,Nat.zero_add,Nat.add_zero,qu,qo,B0,reduceIte,reduceEqDiff]
  refine qh (v := .int .i64 v_1.Term) rfl ?_
  simp only [qt,qb,Nat.reduceAdd,Nat.zero_add,Nat.add_zero,q8,zl,B0,reduceIte,reduceEqDiff]
  refine q9 (us:=[.int .i64 v_1.Term]) rfl (cs':=[.int .i64 v_1.Term,.int .i64 x15.Voted,.bool x15.Stands,.bool x15.Leads,v27,
    v31]) hS40 hW rfl rfl (nle rfl) rfl (fun h54 hS55=>?_)
  simp only [qa,q6h,qg,qf,qt,qb,Nat.reduceAdd,Nat.zero_add,Nat.add_zero,q8,zl,B0,reduceIte,reduceEqDiff]
  refine q9 (us:=[.int .i64 (-1)]) rfl (cs':=[.int .i64 v_1.Term,.int .i64 (-1),.bool x15.Stands,.bool x15.Leads,v27,
    v31]) hS55 hW rfl rfl (nle rfl) rfl (fun h56 hS57=>?_)
  simp only [qa,q56,qg,qf,qt,qb,Nat.reduceAdd,Nat.zero_add,Nat.add_zero,q8,zl,B0,reduceIte,reduceEqDiff]
  refine q9 (us:=[.bool false]) rfl (cs':=[.int .i64 v_1.Term,.int .i64 (-1),.bool false,.bool x15.Leads,v27,
    v31]) hS57 hW rfl rfl (nle rfl) rfl (fun h58 hS59=>?_)
  simp only [qa,qz2,qg,qf,qt,qb,Nat.reduceAdd,Nat.zero_add,Nat.add_zero,q8,zl,B0,reduceIte,reduceEqDiff]
  refine q9 (us:=[.bool false]) rfl (cs':=[.int .i64 v_1.Term,.int .i64 (-1),.bool false,.bool false,v27,v31]) hS59 hW rfl rfl (nle rfl) rfl (fun h60 hS61=>?_)
  simp only [qa,qf,qt,qb,Nat.reduceAdd,Nat.zero_add,Nat.add_zero,q8,zl,B0,reduceIte,reduceEqDiff]
  refine q9 (us:=[.nil]) rfl (cs':=[.int .i64 v_1.Term,.int .i64 (-1),.bool false,.bool false,.nil,v31]) hS61 hW rfl rfl (nle rfl) rfl (fun h62 hS63=>?_)
  simp only [qa,qn,B0,reduceIte,reduceEqDiff]
  have e64:=qk hX47
  subst e64
  exact hN50 _ _ ⟨.nil,[],rfl,rfl,rfl,rfl,SlF.nil,((Sep.m6 (Sep.m5 (Sep.m4 (Sep.m4 (Sep.m6 (Sep.m6 (Sep.m2 (Sep.dc (Sep.m2 hS63))))))))) : Sep _ lo ([Blk1 b1 [pv0_0,
    pv0_1,pv0_2] 31]++([Blk1 b9 [.nil,.nil,.nil] 31]++([Blk1 b35 [.int .i64 v_1.Term,.int .i64 (-1),.bool false,.bool false,.nil,
    v31] 46]++(c20++(pc0_1++(pc0_2++(c32++(S0)))))))))⟩
 ·rw [iteF hc53] at hX47
  simp only [zi,qn,B0,reduceIte,reduceEqDiff]
  have e65:=qk hX47
  subst e65
  exact hN50 _ _ ⟨v27,c28,rfl,rfl,rfl,rfl,hv29,(Sep.m7 (Sep.m6 (Sep.m5 (Sep.m5 (Sep.m7 (Sep.m7 (Sep.m3 (Sep.m3 hS40))))))))⟩
 rintro fr66 h67 ⟨v43,c44,f69,f70,f71,f72,hv45,hS68⟩
 unfold qf6 at hk48
 simp only [qt5,qg,qf,f70,qt,qb,Nat.reduceAdd,Nat.zero_add,Nat.add_zero,qu,qo,B0,reduceIte,reduceEqDiff]
 refine qh (v := .bool v_1.Asks) rfl ?_
 simp only [qa,qxt,ze,B0,reduceIte,reduceEqDiff]
 refine zf (t:=v_1.Asks) (fun hc73=>?_) (fun hc73=>?_)
 ·rw [iteT hc73] at hk48
  simp only [qtw,qg,qf,f70,qt,qb,Nat.reduceAdd,Nat.zero_add,Nat.add_zero,qu,qo,B0,reduceIte,reduceEqDiff]
  refine qh (v := .int .i64 v_1.Term) rfl ?_
  simp only [f72,qt,qb,Nat.reduceAdd,Nat.zero_add,Nat.add_zero,q8,qo,B0,reduceIte,reduceEqDiff]
  refine qh (v := .int .i64 s41.Term) ((jh (Sep.bk _ _ _ (Sep.m2 hS68))).trans rfl) ?_
  simp only [qx,qb,yh,qd,B0,reduceIte,reduceEqDiff]
  refine z7 11 (fun fr' h'=>Sep h' lo ([Blk1 b1 [pv0_0,pv0_1,pv0_2] 31]++([Blk1 b9 [.nil,.nil,.nil] 31]++([Blk1 b35 [.int .i64 s41.Term,.int .i64 s41.Voted,
    .bool s41.Stands,.bool s41.Leads,v43,
    v31] 46]++(c20++(pc0_1++(pc0_2++(c44++(c32++(S0)))))))))∧fr' 43 = .bool ((decide (v_1.Term=s41.Term))&&((decide (s41.Voted=(-1)))||(decide
    (s41.Voted=v_1.From))))∧fr' 2 = .ptr b1 0∧fr' 3 = .ref [.int .i64 v_1.To,.int .i64 v_1.From,.int .i64 v_1.Term,.bool v_1.Asks,.int .i64 v_1.Last,
    .int .i64 v_1.Long,.bool v_1.Grant] 0∧fr' 4 = .ptr b9 0∧fr' 5 = .ptr b35 0) (fun Q74 hN75=>?_) ?_
  ·simp only [List.take_succ_cons,List.take_zero]
   simp only [qc (g:=32),B0,reduceIte,reduceEqDiff]
   refine qy (t:=(decide (v_1.Term=s41.Term))) (fun hg76=>?_) (fun hg76=>?_)
   ·simp only [hg76,qc (g:=32),zg,f72,qt,qb,Nat.reduceAdd,Nat.zero_add,Nat.add_zero,q8,qo,B0,reduceIte,reduceEqDiff]
    refine qh (v := .int .i64 s41.Voted) ((jh (Sep.bk _ _ _ (Sep.m2 hS68))).trans rfl) ?_
    simp only [hg76,qc (g:=32),zg,qx,qb,yh,qd,B0,reduceIte,reduceEqDiff]
    refine z7 6 (fun fr' h'=>Sep h' lo ([Blk1 b1 [pv0_0,pv0_1,pv0_2] 31]++([Blk1 b9 [.nil,.nil,.nil] 31]++([Blk1 b35 [.int .i64 s41.Term,.int .i64 s41.Voted,
      .bool s41.Stands,.bool s41.Leads,v43,
      v31] 46]++(c20++(pc0_1++(pc0_2++(c44++(c32++(S0)))))))))∧fr' 42 = .bool ((decide (s41.Voted=(-1)))||(decide
      (s41.Voted=v_1.From)))∧fr' 2 = .ptr b1 0∧fr' 3 = .ref [.int .i64 v_1.To,.int .i64 v_1.From,.int .i64 v_1.Term,.bool v_1.Asks,.int .i64 v_1.Last,
      .int .i64 v_1.Long,.bool v_1.Grant] 0∧fr' 4 = .ptr b9 0∧fr' 5 = .ptr b35 0∧fr' 32 = .bool (decide (v_1.Term=s41.Term))) (fun Q77 hN78=>?_) ?_
    ·simp only [List.take_succ_cons,List.take_zero]
     simp only [qc (g:=36),B0,reduceIte,reduceEqDiff]
     refine qy (t:=(decide (s41.Voted=(-1)))) (fun hg79=>?_) (fun hg79=>?_)
     ·simp only [hg79,qc (g:=36),zq,hg76,qc (g:=32),zg,qs,qb,zj,qa,qn,B0,reduceIte,
       reduceEqDiff]
      exact hN78 _ _ ⟨(Sep.m7 (Sep.m7 (Sep.m7 (Sep.m7 (Sep.m7 (Sep.m7 (Sep.m7 (Sep.m7 hS68)))))))),by rw [orT hg79]; simp only [B0,reduceIte,reduceEqDiff],f69,f70,f71,
        f72,by simp only [hg76,B0,reduceIte,reduceEqDiff]⟩
     ·simp only [hg79,qc (g:=36),qp,f72,qt,qb,Nat.reduceAdd,Nat.zero_add,Nat.add_zero,q8,qo,B0,reduceIte,reduceEqDiff]
      refine qh (v := .int .i64 s41.Voted) ((jh (Sep.bk _ _ _ (Sep.m2 hS68))).trans rfl) ?_
      simp only [hg79,qc (g:=36),qp,f70,qt,qb,Nat.reduceAdd,Nat.zero_add,Nat.add_zero,qu,qo,B0,reduceIte,reduceEqDiff]
      refine qh (v := .int .i64 v_1.From) rfl ?_
      simp only [hg79,qc (g:=36),qp,qx,qb,yh,hg76,qc (g:=32),zg,qs,zk,qa,qn,B0,
        reduceIte,reduceEqDiff]
      exact hN78 _ _ ⟨(Sep.m7 (Sep.m7 (Sep.m7 (Sep.m7 (Sep.m7 (Sep.m7 (Sep.m7 (Sep.m7 hS68)))))))),by rw [orF hg79]; simp only [B0,reduceIte,reduceEqDiff],f69,f70,f71,
        f72,by simp only [hg76,B0,reduceIte,reduceEqDiff]⟩
    rintro fr80 h87 ⟨hS88,f81,f82,f83,f84,f85,f86⟩
    simp only [List.drop_succ_cons,List.drop_zero]
    simp only [f86,hg76,qs,qb,zj,f81,qa,qn,B0,reduceIte,reduceEqDiff]
    exact hN75 _ _ ⟨(Sep.m7 (Sep.m7 (Sep.m7 (Sep.m7 (Sep.m7 (Sep.m7 (Sep.m7 (Sep.m7 hS88)))))))),by rw [xl hg76]; simp only [B0,reduceIte,reduceEqDiff],f82,f83,f84,
      f85⟩
   ·simp only [hg76,qc (g:=32),jl,qc (g:=36),ym,qs,qb,zk,qa,qn,B0,reduceIte,reduceEqDiff]
    exact hN75 _ _ ⟨(Sep.m7 (Sep.m7 (Sep.m7 (Sep.m7 (Sep.m7 (Sep.m7 (Sep.m7 (Sep.m7 hS68)))))))),by rw [xm hg76]; simp only [B0,reduceIte,reduceEqDiff],f69,f70,f71,
      f72⟩
  rintro fr89 h95 ⟨hS96,f90,f91,f92,f93,f94⟩
  simp only [List.drop_succ_cons,List.drop_zero]
  simp only [f90,qd,B0,reduceIte,reduceEqDiff]
  obtain ⟨v100,hx101,hF102⟩:=qj hk48
  refine z7 8 (fun fr' h'=>Sep h' lo ([Blk1 b1 [pv0_0,pv0_1,pv0_2] 31]++([Blk1 b9 [.nil,.nil,.nil] 31]++([Blk1 b35 [.int .i64 s41.Term,.int .i64 s41.Voted,
    .bool s41.Stands,.bool s41.Leads,v43,
    v31] 46]++(c20++(pc0_1++(pc0_2++(c44++(c32++(S0)))))))))∧fr' 52 = .bool v100∧fr' 2 = .ptr b1 0∧fr' 3 = .ref [.int .i64 v_1.To,.int .i64 v_1.From,
    .int .i64 v_1.Term,.bool v_1.Asks,.int .i64 v_1.Last,.int .i64 v_1.Long,.bool v_1.Grant] 0∧fr' 4 = .ptr b9 0∧fr' 5 = .ptr b35 0) (fun Q97 hN98=>?_) ?_
  ·simp only [List.take_succ_cons,List.take_zero]
   simp only [qc (g:=44),B0,reduceIte,reduceEqDiff]
   refine qy (t:=((decide (v_1.Term=s41.Term))&&((decide (s41.Voted=(-1)))||(decide (s41.Voted=v_1.From))))) (fun hg99=>?_) (fun hg99=>?_)
   ·rw [iteT hg99] at hx101
    simp only [hg99,qc (g:=44),zg,f92,qt,qb,Nat.reduceAdd,Nat.zero_add,Nat.add_zero,qu,qo,B0,reduceIte,reduceEqDiff]
    refine qh (v := .int .i64 v_1.Last) rfl ?_
    simp only [hg99,qc (g:=44),zg,f92,qt,qb,Nat.reduceAdd,Nat.zero_add,Nat.add_zero,qu,qo,B0,reduceIte,reduceEqDiff]
    refine qh (v := .int .i64 v_1.Long) rfl ?_
    simp only [hg99,qc (g:=44),zg,f94,qt,qb,Nat.reduceAdd,Nat.zero_add,Nat.add_zero,q8,qo,B0,reduceIte,reduceEqDiff]
    refine qh (v:=v31) ((jh (Sep.bk _ _ _ (Sep.m2 hS96))).trans rfl) ?_
    obtain ⟨v103,hx104,hF105⟩:=qj hx101
    simp only [hg99,qc (g:=44),zg,qv,B0,reduceIte,reduceEqDiff]
    refine je rfl (qm zb (qm zb (qm (SlF.snap hv33 (Sep.m7 hS96) rfl (fun _=>rfl) (fun _=>rfl)) qz))) (qh6
      (fun b hb=>decide_eq_true hb) v_1.Last v_1.Long x15.Log v103 hx104) ?_
    simp only [hg99,qs,qb,zj,qa,qn,B0,reduceIte,reduceEqDiff]
    have e106:=qk hF105
    exact hN98 _ _ ⟨(Sep.m7 (Sep.m7 (Sep.m7 (Sep.m7 (Sep.m7 (Sep.m7 (Sep.m7 (Sep.m7 hS96)))))))),by rw [←e106]; simp only [B0,reduceIte,reduceEqDiff],f91,f92,f93,f94⟩
   ·rw [iteF hg99] at hx101
    simp only [hg99,qc (g:=44),jl,qs,qb,zk,qa,qn,B0,reduceIte,reduceEqDiff]
    have e107:=qk hx101
    exact hN98 _ _ ⟨(Sep.m7 (Sep.m7 (Sep.m7 (Sep.m7 (Sep.m7 (Sep.m7 (Sep.m7 (Sep.m7 hS96)))))))),by rw [←e107]; simp only [B0,reduceIte,reduceEqDiff],f91,f92,f93,f94⟩
  rintro fr108 h114 ⟨hS115,f109,f110,f111,f112,f113⟩
  simp only [List.drop_succ_cons,List.drop_zero]
  simp only [f109,qd,qa,qut,qg,qf,B0,reduceIte,reduceEqDiff]
  refine z7 5 (fun fr' h'=>Sep h' lo ([Blk1 b1 [pv0_0,pv0_1,pv0_2] 31]++([Blk1 b9 [.nil,.nil,.nil] 31]++([Blk1 b35 [.int .i64 s41.Term,.int .i64 s41.Voted,
    .bool s41.Stands,.bool s41.Leads,v43,
    v31] 46]++(c20++(pc0_1++(pc0_2++(c44++(c32++(S0)))))))))∧fr' 59 = .bool (v100&&(decide
    ((List.length v_0.Post:Int)<20)))∧fr' 2 = .ptr b1 0∧fr' 3 = .ref [.int .i64 v_1.To,.int .i64 v_1.From,.int .i64 v_1.Term,.bool v_1.Asks,.int .i64 v_1.Last,
    .int .i64 v_1.Long,.bool v_1.Grant] 0∧fr' 4 = .ptr b9 0∧fr' 5 = .ptr b35 0∧fr' 6 = .bool v100) (fun Q116 hN117=>?_) ?_
  ·simp only [List.take_succ_cons,List.take_zero]
   simp only [qc (g:=54),B0,reduceIte,reduceEqDiff]
   refine qy (t:=v100) (fun hg118=>?_) (fun hg118=>?_)
   ·simp only [hg118,qc (g:=54),zg,f110,qt,qb,Nat.reduceAdd,Nat.zero_add,Nat.add_zero,q8,qo,B0,reduceIte,reduceEqDiff]
    refine qh (v:=pv0_1) ((jh (Sep.bk _ _ _ hS115)).trans rfl) ?_
    simp only [hg118,qc (g:=54),zg,zr,qb,SlF.plen ph0_1,qx,qdj,qs,zj,qa,qn,B0,reduceIte,reduceEqDiff]
    exact hN117 _ _ ⟨(Sep.m7 (Sep.m7 (Sep.m7 (Sep.m7 (Sep.m7 (Sep.m7 (Sep.m7 (Sep.m7 hS115)))))))),by rw [xl hg118]; simp only [B0,reduceIte,reduceEqDiff],f110,f111,
      f112,f113,by simp only [B0,reduceIte,reduceEqDiff,hg118]⟩
   ·simp only [hg118,qc (g:=54),jl,qs,qb,zk,qa,qn,B0,reduceIte,reduceEqDiff]
    exact hN117 _ _ ⟨(Sep.m7 (Sep.m7 (Sep.m7 (Sep.m7 (Sep.m7 (Sep.m7 (Sep.m7 (Sep.m7 hS115)))))))),by rw [xm hg118]; simp only [B0,reduceIte,reduceEqDiff],f110,f111,
      f112,f113,by simp only [B0,reduceIte,reduceEqDiff,hg118]⟩
  rintro fr119 h126 ⟨hS127,f120,f121,f122,f123,f124,f125⟩
  simp only [List.drop_succ_cons,List.drop_zero]
  simp only [qa,q5j,f120,ze,B0,reduceIte,reduceEqDiff]
  obtain ⟨s128,hX130,hk131⟩:=qj hF102
  refine uq (t:=(v100&&(decide ((List.length v_0.Post:Int)<20)))) (fun fr' h'=>fr' 2 = .ptr b1 0∧fr' 3 = .ref [.int .i64 v_1.To,.int .i64 v_1.From,
    .int .i64 v_1.Term,.bool v_1.Asks,.int .i64 v_1.Last,.int .i64 v_1.Long,
    .bool v_1.Grant] 0∧fr' 4 = .ptr b9 0∧fr' 5 = .ptr b35 0∧fr' 6 = .bool v100∧Sep h' lo ([Blk1 b1 [pv0_0,pv0_1,pv0_2] 31]++([Blk1 b9 [.nil,.nil,
    .nil] 31]++([Blk1 b35 [.int .i64 s128.Term,.int .i64 s128.Voted,.bool s128.Stands,.bool s128.Leads,v43,
    v31] 46]++(c20++(pc0_1++(pc0_2++(c44++(c32++(S0)))))))))) (fun Q132 hN133 hR134 hE135=>⟨fun hc136=>?_,fun hc136=>?_⟩) ?_
  ·rw [iteT hc136] at hX130
   simp only [q1o,qf,f122,qt,qb,Nat.reduceAdd,Nat.zero_add,Nat.add_zero,qu,qo,B0,reduceIte,reduceEqDiff]
   refine qh (v := .int .i64 v_1.From) rfl ?_
   simp only [f124,qt,qb,Nat.reduceAdd,Nat.zero_add,Nat.add_zero,q8,zl,B0,reduceIte,reduceEqDiff]
   refine q9 (us:=[.int .i64 v_1.From]) rfl (cs':=[.int .i64 s41.Term,.int .i64 v_1.From,.bool s41.Stands,.bool s41.Leads,v43,
     v31]) (Sep.m2 hS127) hW rfl rfl (nle rfl) rfl (fun h137 hS138=>?_)
   simp only [qa,qn,B0,reduceIte,reduceEqDiff]
   have e139:=qk hX130
   subst e139
   exact hN133 _ _ ⟨f121,f122,f123,f124,f125,(Sep.m7 (Sep.m7 (Sep.m5 (Sep.m7 (Sep.m7 (Sep.m7 (Sep.m7 (Sep.m7 hS138))))))))⟩
  ·rw [iteF hc136] at hX130
   simp only [zi,qn,B0,reduceIte,reduceEqDiff]
   have e140:=qk hX130
   subst e140
   exact hN133 _ _ ⟨f121,f122,f123,f124,f125,(Sep.m7 (Sep.m7 (Sep.m7 (Sep.m7 (Sep.m7 (Sep.m7 (Sep.m7 (Sep.m7 hS127))))))))⟩
  rintro fr141 h142 ⟨f144,f145,f146,f147,f148,hS143⟩
  unfold qeh at hk131
  simp only [qw6,qg,qf,f144,qt,qb,Nat.reduceAdd,Nat.zero_add,Nat.add_zero,q8,qo,B0,reduceIte,reduceEqDiff]
  refine qh (v:=pv0_0) ((jh (Sep.bk _ _ _ hS143)).trans rfl) ?_
  simp only [f145,qt,qb,Nat.reduceAdd,Nat.zero_add,Nat.add_zero,qu,qo,B0,reduceIte,reduceEqDiff]
  refine qh (v := .int .i64 v_1.To) rfl ?_
  simp only [f147,qo,B0,reduceIte,reduceEqDiff]
  refine qh (v := .agg [.int .i64 s128.Term,.int .i64 s128.Voted,.bool s128.Stands,.bool s128.Leads,v43,v31]) ((zz (Sep.bk _ _ _ (Sep.m2 hS143))).trans rfl) ?_
  simp only [jr,B0,reduceIte,reduceEqDiff]
  refine qh (SlG.ia hv23 hx16) ?_
  simp only [zl,B0,reduceIte,reduceEqDiff]
  refine y7 (n:=6) (us:=[.int .i64 s128.Term,.int .i64 s128.Voted,.bool s128.Stands,.bool s128.Leads,v43,v31]) (cs:=[.int .i64 x15.Term,.int .i64 x15.Voted,
    .bool x15.Stands,.bool x15.Leads,v27,v31]) (o:=0) (cs':=[.int .i64 s128.Term,.int .i64 s128.Voted,.bool s128.Stands,.bool s128.Leads,v43,
    v31]) rfl hv23 rfl hx16 (Sep.m3 hS143) hW rfl (qq rfl (qq rfl (qq rfl (qq rfl (qq (SlF.one hv45) (qq (SlF.one hv33) zo)))))) (nle rfl) rfl
    (fun c151 h149 hv152 hS150=>?_)
  simp only [qa,qr4,qg,qf,f144,qt,qb,Nat.reduceAdd,Nat.zero_add,Nat.add_zero,q8,qo,B0,reduceIte,reduceEqDiff]
  refine qh (v:=pv0_1) ((jh (Sep.bk _ _ _ (Sep.m1 hS150))).trans rfl) ?_
  simp only [zr,qb,SlF.plen ph0_1,qx,qdj,qa,q44,ze,B0,reduceIte,reduceEqDiff]
  obtain ⟨sv164,hX162,hk163⟩:=qj hk131
  refine uq (t:=(decide ((List.length v_0.Post:Int)<20))) (fun fr' h'=>∃ v155 c156 c159,
    fr' 2 = .ptr b1 0∧fr' 4 = .ptr b9 0∧SlF qe 7 93 v155 sv164.1.Post c156∧SlN Server.R 6 46 pv0_0 sv164.2 c159∧Sep h' lo ([Blk1 b1 [pv0_0,v155,
    pv0_2] 31]++([Blk1 b9 [.nil,.nil,.nil] 31]++(c159++(c156++(pc0_2++(S0))))))) (fun Q165 hN166 hR167 hE168=>⟨fun hc169=>?_,fun hc169=>?_⟩) ?_
  ·rw [iteT hc169] at hX162
   simp only [q2g,qf,f144,qt,qb,Nat.reduceAdd,Nat.zero_add,Nat.add_zero,q8,qo,B0,reduceIte,reduceEqDiff]
   refine qh (v:=pv0_1) ((jh (Sep.bk _ _ _ (Sep.m1 hS150))).trans rfl) ?_
   simp only [f145,qt,qb,Nat.reduceAdd,Nat.zero_add,Nat.add_zero,qu,qo,B0,reduceIte,reduceEqDiff]
   refine qh (v := .int .i64 v_1.From) rfl ?_
   simp only [f145,qt,qb,Nat.reduceAdd,Nat.zero_add,Nat.add_zero,qu,qo,B0,reduceIte,reduceEqDiff]
   refine qh (v := .int .i64 v_1.To) rfl ?_
   simp only [f147,qt,qb,Nat.reduceAdd,Nat.zero_add,Nat.add_zero,q8,qo,B0,reduceIte,reduceEqDiff]
   refine qh (v := .int .i64 s128.Term) ((jh (Sep.bk _ _ _ (Sep.m3 hS150))).trans rfl) ?_
   simp only [f148,qd,run_build,evp,B0,reduceIte,reduceEqDiff]
   refine qh (v := .agg [.int .i64 v_1.From,.int .i64 v_1.To,.int .i64 s128.Term,.bool false,.int .i64 0,.int .i64 0,.bool v100]) rfl ?_
   simp only [j8,evp,B0,reduceIte,reduceEqDiff]
   refine jy (n:=7) (f:=qe) [(Letter.mk v_1.From v_1.To s128.Term false 0 0 v100)] hS150 rfl rfl (fun v170 c171 h172 hv173 hS174=>?_)
   simp only [wu,B0,reduceIte,reduceEqDiff]
   obtain ⟨l176,hx177,hF178⟩:=qj hX162
   refine yx (f:=qe) ph0_1 (Sep.m5 hS174) hW (fun _=>rfl) (fun _=>rfl) (SlF.first hv173 hS174 (fun _=>rfl)) hx177 (fun v179 c180 h181 hv182 hS183=>?_)
   simp only [f144,qt,qb,Nat.reduceAdd,Nat.zero_add,Nat.add_zero,q8,zl,B0,reduceIte,reduceEqDiff]
   refine q9 (us:=[v179]) (js (SlF.one hv182)) (cs':=[pv0_0,v179,
     pv0_2]) (Sep.m3 hS183) hW rfl (qq (SlF.one hv182) zo) (nle rfl) rfl (fun h185 hS186=>?_)
   simp only [qa,qn,B0,reduceIte,reduceEqDiff]
   obtain ⟨c187,hv188,hS189⟩:=SlG.cls (e':=(Server.mk s128.Term s128.Voted s128.Stands s128.Leads s41.Got x15.Log)) (c:=c151) (os:=c44 ++
     (c32)) hv152 rfl hx16 ju (Server.RI (x:=(Server.mk s128.Term s128.Voted s128.Stands s128.Leads s41.Got x15.Log)) hv45 hv33) (Sep.ni2 (c1:=c44) (c2:=c32)
     (Sep.m5 (Sep.m8 (Sep.m8 hS186))))
   have hx190:=wq (x':=(Server.mk s128.Term s128.Voted s128.Stands s128.Leads s41.Got x15.Log)) hx16
   have hv191:=SlG.toN hv188
   have e192:=qk hF178
   subst e192
   exact hN166 _ _ ⟨v179,c180,c187,f144,f146,hv182,hv191,(Sep.m4 (Sep.m4 (Sep.m2 (Sep.m3 (Sep.m4 (Sep.dc (Sep.m4 (Sep.dc (Sep.m3 hS189)))))))))⟩
  ·rw [iteF hc169] at hX162
   simp only [zi,qn,B0,reduceIte,reduceEqDiff]
   obtain ⟨c193,hv194,hS195⟩:=SlG.cls (e':=(Server.mk s128.Term s128.Voted s128.Stands s128.Leads s41.Got x15.Log)) (c:=c151) (os:=c44 ++
     (c32)) hv152 rfl hx16 ju (Server.RI (x:=(Server.mk s128.Term s128.Voted s128.Stands s128.Leads s41.Got x15.Log)) hv45 hv33) (Sep.ni2 (c1:=c44) (c2:=c32)
     (Sep.m2 (Sep.m7 (Sep.m7 hS150))))
   have hx196:=wq (x':=(Server.mk s128.Term s128.Voted s128.Stands s128.Leads s41.Got x15.Log)) hx16
   have hv197:=SlG.toN hv194
   have e198:=qk hX162
   subst e198
   exact hN166 _ _ ⟨pv0_1,pc0_1,c193,f144,f146,ph0_1,hv197,(Sep.m4 (Sep.m4 (Sep.m2 (Sep.m4 (Sep.m4 (Sep.dc (Sep.m3 hS195)))))))⟩
  rintro fr199 h200 ⟨v155,c156,c159,f202,f203,hv157,hv160,hS201⟩
  obtain ⟨s153,s158⟩:=sv164
  dsimp only at *
  unfold qim at hk163
  simp only [qg,qf,f202,qo,B0,reduceIte,reduceEqDiff]
  refine qh (v := .agg [pv0_0,v155,pv0_2]) ((zz (Sep.bk _ _ _ hS201)).trans rfl) ?_
  simp only [f203,zl,B0,reduceIte,reduceEqDiff]
  refine q9 (us:=[pv0_0,v155,pv0_2]) rfl (cs':=[pv0_0,v155,
    pv0_2]) (Sep.m1 hS201) hW rfl (qq (SlN.one hv160) (qq (SlF.one hv157) (qq (SlF.one ph0_2) zo))) (nle rfl) rfl (fun h204 hS205=>?_)
  simp only [qa,za,B0,reduceIte,reduceEqDiff]
  have he:=qk hk163
  subst he
  refine xe (bb:=b9) (oo:=0) (v := .agg [pv0_0,v155,pv0_2]) (by simp only [f203,B0,reduceIte,reduceEqDiff]) ((zz (Sep.bk _ _ _ hS205)).trans rfl) ?_
  exact ⟨c159,v155,c156,pv0_2,pc0_2,by first | trivial | rfl,hv160,hv157,ph0_2,(Sep.m2 (Sep.m2 (Sep.m2 (Sep.dc ((Sep.dc (hS205)))))))⟩
 rw [iteF hc73] at hk48
 simp only [zi,qxb,qg,qf,f70,qt,qb,Nat.reduceAdd,Nat.zero_add,Nat.add_zero,qu,qo,B0,reduceIte,reduceEqDiff]
 refine qh (v := .bool v_1.Grant) rfl ?_
 simp only [qd,B0,reduceIte,reduceEqDiff]
 refine z7 6 (fun fr' h'=>Sep h' lo ([Blk1 b1 [pv0_0,pv0_1,pv0_2] 31]++([Blk1 b9 [.nil,.nil,.nil] 31]++([Blk1 b35 [.int .i64 s41.Term,.int .i64 s41.Voted,
   .bool s41.Stands,.bool s41.Leads,v43,
   v31] 46]++(c20++(pc0_1++(pc0_2++(c44++(c32++(S0)))))))))∧fr' 95 = .bool (v_1.Grant&&(decide
   (v_1.Term=s41.Term)))∧fr' 2 = .ptr b1 0∧fr' 3 = .ref [.int .i64 v_1.To,.int .i64 v_1.From,.int .i64 v_1.Term,.bool v_1.Asks,.int .i64 v_1.Last,.int .i64 v_1.Long,
   .bool v_1.Grant] 0∧fr' 4 = .ptr b9 0∧fr' 5 = .ptr b35 0) (fun Q208 hN209=>?_) ?_
 ·simp only [List.take_succ_cons,List.take_zero]
  simp only [qc (g:=89),B0,reduceIte,reduceEqDiff]
  refine qy (t:=v_1.Grant) (fun hg210=>?_) (fun hg210=>?_)
  ·simp only [hg210,qc (g:=89),zg,f70,qt,qb,Nat.reduceAdd,Nat.zero_add,Nat.add_zero,qu,qo,B0,reduceIte,reduceEqDiff]
   refine qh (v := .int .i64 v_1.Term) rfl ?_
   simp only [hg210,qc (g:=89),zg,f72,qt,qb,Nat.reduceAdd,Nat.zero_add,Nat.add_zero,q8,qo,B0,reduceIte,reduceEqDiff]
   refine qh (v := .int .i64 s41.Term) ((jh (Sep.bk _ _ _ (Sep.m2 hS68))).trans rfl) ?_
   simp only [hg210,qc (g:=89),zg,qx,qb,yh,qs,zj,qa,qn,B0,reduceIte,reduceEqDiff]
   exact hN209 _ _ ⟨(Sep.m7 (Sep.m7 (Sep.m7 (Sep.m7 (Sep.m7 (Sep.m7 (Sep.m7 (Sep.m7 hS68)))))))),by rw [xl hg210]; simp only [B0,reduceIte,reduceEqDiff],f69,
     by simp only [f70,B0,reduceIte,reduceEqDiff,hg210],f71,f72⟩
  ·simp only [hg210,qc (g:=89),jl,qs,qb,zk,qa,qn,B0,reduceIte,reduceEqDiff]
   exact hN209 _ _ ⟨(Sep.m7 (Sep.m7 (Sep.m7 (Sep.m7 (Sep.m7 (Sep.m7 (Sep.m7 (Sep.m7 hS68)))))))),by rw [xm hg210]; simp only [B0,reduceIte,reduceEqDiff],f69,
     by simp only [f70,B0,reduceIte,reduceEqDiff,hg210],f71,f72⟩
 rintro fr211 h217 ⟨hS218,f212,f213,f214,f215,f216⟩
 simp only [List.drop_succ_cons,List.drop_zero]
 simp only [f212,qd,B0,reduceIte,reduceEqDiff]
 refine z7 3 (fun fr' h'=>Sep h' lo ([Blk1 b1 [pv0_0,pv0_1,pv0_2] 31]++([Blk1 b9 [.nil,.nil,.nil] 31]++([Blk1 b35 [.int .i64 s41.Term,.int .i64 s41.Voted,
   .bool s41.Stands,.bool s41.Leads,v43,
   v31] 46]++(c20++(pc0_1++(pc0_2++(c44++(c32++(S0)))))))))∧fr' 99 = .bool ((v_1.Grant&&(decide
   (v_1.Term=s41.Term)))&&s41.Stands)∧fr' 2 = .ptr b1 0∧fr' 3 = .ref [.int .i64 v_1.To,.int .i64 v_1.From,.int .i64 v_1.Term,.bool v_1.Asks,.int .i64 v_1.Last,
   .int .i64 v_1.Long,.bool v_1.Grant] 0∧fr' 4 = .ptr b9 0∧fr' 5 = .ptr b35 0) (fun Q219 hN220=>?_) ?_
 ·simp only [List.take_succ_cons,List.take_zero]
  simp only [qc (g:=96),B0,reduceIte,reduceEqDiff]
  refine qy (t:=(v_1.Grant&&(decide (v_1.Term=s41.Term)))) (fun hg221=>?_) (fun hg221=>?_)
  ·simp only [hg221,qc (g:=96),zg,f216,qt,qb,Nat.reduceAdd,Nat.zero_add,Nat.add_zero,q8,qo,B0,reduceIte,reduceEqDiff]
   refine qh (v := .bool s41.Stands) ((jh (Sep.bk _ _ _ (Sep.m2 hS218))).trans rfl) ?_
   simp only [hg221,qs,qb,zj,qa,qn,B0,reduceIte,reduceEqDiff]
   exact hN220 _ _ ⟨(Sep.m7 (Sep.m7 (Sep.m7 (Sep.m7 (Sep.m7 (Sep.m7 (Sep.m7 (Sep.m7 hS218)))))))),by rw [xl hg221]; simp only [B0,reduceIte,reduceEqDiff],f213,f214,
     f215,f216⟩
  ·simp only [hg221,qc (g:=96),jl,qs,qb,zk,qa,qn,B0,reduceIte,reduceEqDiff]
   exact hN220 _ _ ⟨(Sep.m7 (Sep.m7 (Sep.m7 (Sep.m7 (Sep.m7 (Sep.m7 (Sep.m7 (Sep.m7 hS218)))))))),by rw [xm hg221]; simp only [B0,reduceIte,reduceEqDiff],f213,f214,
     f215,f216⟩
 rintro fr222 h228 ⟨hS229,f223,f224,f225,f226,f227⟩
 simp only [List.drop_succ_cons,List.drop_zero]
 simp only [qa,qrm,f223,ze,B0,reduceIte,reduceEqDiff]
 obtain ⟨s230,hX236,hk237⟩:=qj hk48
 refine uq (t:=((v_1.Grant&&(decide (v_1.Term=s41.Term)))&&s41.Stands)) (fun fr' h'=>∃ v232 c233,fr' 2 = .ptr b1 0∧fr' 3 = .ref [.int .i64 v_1.To,
   .int .i64 v_1.From,.int .i64 v_1.Term,.bool v_1.Asks,.int .i64 v_1.Last,.int .i64 v_1.Long,
   .bool v_1.Grant] 0∧fr' 4 = .ptr b9 0∧fr' 5 = .ptr b35 0∧SlF cI 1 3 v232 s230.Got c233∧Sep h' lo ([Blk1 b1 [pv0_0,pv0_1,pv0_2] 31]++([Blk1 b9 [.nil,.nil,
   .nil] 31]++([Blk1 b35 [.int .i64 s230.Term,.int .i64 s230.Voted,.bool s230.Stands,.bool s230.Leads,v232,
   v31] 46]++(c20++(pc0_1++(pc0_2++(c233++(c32++(S0)))))))))) (fun Q238 hN239 hR240 hE241=>⟨fun hc242=>?_,fun hc242=>?_⟩) ?_
 ·rw [iteT hc242] at hX236
  simp only [qsv,qf,f227,qt,qb,Nat.reduceAdd,Nat.zero_add,Nat.add_zero,q8,qo,B0,reduceIte,reduceEqDiff]
  refine qh (v:=v43) ((jh (Sep.bk _ _ _ (Sep.m2 hS229))).trans rfl) ?_
  simp only [f225,qt,qb,Nat.reduceAdd,Nat.zero_add,Nat.add_zero,qu,qo,B0,reduceIte,reduceEqDiff]
  refine qh (v := .int .i64 v_1.From) rfl ?_
  obtain ⟨v243,hx244,hF245⟩:=qj hX236
  simp only [qv,B0,reduceIte,reduceEqDiff]
  refine kg rfl (qnn hW k v43 c44 s41.Got hv45 v_1.From v243 hx244 (Sep.m6 hS229)) ?_
  rintro v246 h250 ⟨_,c247,rfl,hv248,hS251⟩
  simp only [f227,qt,qb,Nat.reduceAdd,Nat.zero_add,Nat.add_zero,q8,zl,B0,reduceIte,reduceEqDiff]
  refine q9 (us:=[v246]) (js (SlF.one hv248)) (cs':=[.int .i64 s41.Term,.int .i64 s41.Voted,.bool s41.Stands,.bool s41.Leads,v246,
    v31]) (Sep.m3 hS251) hW rfl (qq (SlF.one hv248) zo) (nle rfl) rfl (fun h252 hS253=>?_)
  simp only [qa,qn,B0,reduceIte,reduceEqDiff]
  have e254:=qk hF245
  subst e254
  exact hN239 _ _ ⟨v246,c247,f224,f225,f226,f227,hv248,(Sep.m7 (Sep.m7 (Sep.m5 (Sep.m7 (Sep.m7 (Sep.m7 (Sep.m2 (Sep.m7 hS253))))))))⟩
 ·rw [iteF hc242] at hX236
  simp only [zi,qn,B0,reduceIte,reduceEqDiff]
  have e255:=qk hX236
  subst e255
  exact hN239 _ _ ⟨v43,c44,f224,f225,f226,f227,hv45,(Sep.m7 (Sep.m7 (Sep.m7 (Sep.m7 (Sep.m7 (Sep.m7 (Sep.m7 (Sep.m7 hS229))))))))⟩
 rintro fr256 h257 ⟨v232,c233,f259,f260,f261,f262,hv234,hS258⟩
 unfold qef at hk237
 simp only [qtm,qg,qf,f259,qt,qb,Nat.reduceAdd,Nat.zero_add,Nat.add_zero,q8,qo,B0,reduceIte,reduceEqDiff]
 refine qh (v:=pv0_0) ((jh (Sep.bk _ _ _ hS258)).trans rfl) ?_
 simp only [f260,qt,qb,Nat.reduceAdd,Nat.zero_add,Nat.add_zero,qu,qo,B0,reduceIte,reduceEqDiff]
 refine qh (v := .int .i64 v_1.To) rfl ?_
 simp only [f262,qo,B0,reduceIte,reduceEqDiff]
 refine qh (v := .agg [.int .i64 s230.Term,.int .i64 s230.Voted,.bool s230.Stands,.bool s230.Leads,v232,v31]) ((zz (Sep.bk _ _ _ (Sep.m2 hS258))).trans rfl) ?_
 simp only [jr,B0,reduceIte,reduceEqDiff]
 refine qh (SlG.ia hv23 hx16) ?_
 simp only [zl,B0,reduceIte,reduceEqDiff]
 refine y7 (n:=6) (us:=[.int .i64 s230.Term,.int .i64 s230.Voted,.bool s230.Stands,.bool s230.Leads,v232,v31]) (cs:=[.int .i64 x15.Term,.int .i64 x15.Voted,
   .bool x15.Stands,.bool x15.Leads,v27,v31]) (o:=0) (cs':=[.int .i64 s230.Term,.int .i64 s230.Voted,.bool s230.Stands,.bool s230.Leads,v232,
   v31]) rfl hv23 rfl hx16 (Sep.m3 hS258) hW rfl (qq rfl (qq rfl (qq rfl (qq rfl (qq (SlF.one hv234) (qq (SlF.one hv33) zo)))))) (nle rfl) rfl
   (fun c265 h263 hv266 hS264=>?_)
 simp only [qa,qr1,qg,qf,f259,qo,B0,reduceIte,reduceEqDiff]
 refine qh (v := .agg [pv0_0,pv0_1,pv0_2]) ((zz (Sep.bk _ _ _ (Sep.m1 hS264))).trans rfl) ?_
 simp only [f260,qt,qb,Nat.reduceAdd,Nat.zero_add,Nat.add_zero,qu,qo,B0,reduceIte,reduceEqDiff]
 refine qh (v := .int .i64 v_1.To) rfl ?_
 obtain ⟨c267,hv268,hS269⟩:=SlG.cls (e':=(Server.mk s230.Term s230.Voted s230.Stands s230.Leads s230.Got x15.Log)) (c:=c265) (os:=c233++(c32)) hv266 rfl hx16 ju
   (Server.RI (x:=(Server.mk s230.Term s230.Voted s230.Stands s230.Leads s230.Got x15.Log)) hv234 hv33) (Sep.ni2 (c1:=c233) (c2:=c32) (Sep.m2 (Sep.m7 (Sep.m7 hS264))))
 have hx270:=wq (x':=(Server.mk s230.Term s230.Voted s230.Stands s230.Leads s230.Got x15.Log)) hx16
 have hv271:=SlG.toN hv268
 obtain ⟨v272,hx273,hF274⟩:=qj hk237
 simp only [qv,B0,reduceIte,reduceEqDiff]
 refine kg rfl (qja hW (Election.mk (List.set v_0.Servers v_1.To.toNat
   (Server.mk s230.Term s230.Voted s230.Stands s230.Leads s230.Got x15.Log)) v_0.Post v_0.Led) pv0_0 c267 hv271 pv0_1 pc0_1 ph0_1 pv0_2 pc0_2 ph0_2 v_1.To v272 hx273 (Sep.m2
   (Sep.m5 (Sep.m5 hS269)))) ?_
 rintro _ h283 ⟨c275,c277,v279,c280,rfl,hv276,hv278,hv281,hS284⟩
 simp only [f261,zl,B0,reduceIte,reduceEqDiff]
 refine q9 (us:=[pv0_0,pv0_1,v279]) rfl (cs':=[pv0_0,pv0_1,
   v279]) (Sep.m4 hS284) hW rfl (qq (SlN.one hv276) (qq (SlF.one hv278) (qq (SlF.one hv281) zo))) (nle rfl) rfl (fun h285 hS286=>?_)
 simp only [qa,za,B0,reduceIte,reduceEqDiff]
 have he:=qk hF274
 subst he
 refine xe (bb:=b9) (oo:=0) (v := .agg [pv0_0,pv0_1,v279]) (by simp only [f261,B0,reduceIte,reduceEqDiff]) ((zz (Sep.bk _ _ _ hS286)).trans rfl) ?_
 exact ⟨c275,pv0_1,c277,v279,c280,by first | trivial | rfl,hv276,hv278,hv281,(Sep.m2 (Sep.m2 (Sep.m2 (Sep.dc (Sep.m3 (Sep.dc (Sep.m3 (Sep.dc (hS286)))))))))⟩
end Go.Proofs.Ytpddolihbnfahaa.X
namespace Go.Proofs.Ytpddolihbnfahaa.X
open Go
open Nat (reduceEqDiff)
theorem qjb {W:Nat→Bool}{h:Heap}{lo:Nat→Prop}{S0:List Obj} (hW:∀ b,
  lo b→W b=true) (k:Nat) (v_0:Election) (pv0_0:XV) (pc0_0:List Obj) (ph0_0:SlN Server.R 6 46 pv0_0 v_0.Servers pc0_0) (pv0_1:XV) (pc0_1:List Obj)
  (ph0_1:SlF qe 7 93 pv0_1 v_0.Post pc0_1) (pv0_2:XV) (pc0_2:List Obj) (ph0_2:SlF ql 2 39 pv0_2 v_0.Led pc0_2) (v_1:ElectStep) (r:Election × Bool)
  (hF:qdh k v_0 v_1=some r) (hS:Sep h lo (pc0_0++(pc0_1++(pc0_2++(S0))))) : Ret E W 51 [.agg [pv0_0,pv0_1,pv0_2],.agg [.int .i64 v_1.Term,
  .int .i64 v_1.Leader]] h (fun v h'=>∃ rc0_0 rv0_1 rc0_1 rv0_2 rc0_2,v = .tup [.agg [pv0_0,rv0_1,rv0_2],
  .bool r.2]∧SlN Server.R 6 46 pv0_0 r.1.Servers rc0_0∧SlF qe 7 93 rv0_1 r.1.Post rc0_1∧SlF ql 2 39 rv0_2 r.1.Led rc0_2∧Sep h' lo (rc0_0++(rc0_1 ++
  (rc0_2++(S0))))):=by
 refine Ret.of (fn:=x51) rfl (Run.of ?_)
 unfold qdh at hF
 have zf0:zh [.agg [pv0_0,pv0_1,pv0_2],.agg [.int .i64 v_1.Term,.int .i64 v_1.Leader]] 0 = .agg [pv0_0,pv0_1,pv0_2]:=rfl
 have zf1:zh [.agg [pv0_0,pv0_1,pv0_2],.agg [.int .i64 v_1.Term,.int .i64 v_1.Leader]] 1 = .agg [.int .i64 v_1.Term,.int .i64 v_1.Leader]:=rfl
 generalize zh [.agg [pv0_0,pv0_1,pv0_2],.agg [.int .i64 v_1.Term,.int .i64 v_1.Leader]]=fr0 at zf0 zf1 ⊢
 simp only [x51,qg,qf,kc,zf0,B0,reduceIte,reduceEqDiff]
 refine jo (cs:=[pv0_0,pv0_1,pv0_2]) hS rfl rfl (qq (SlN.one ph0_0) (qq (SlF.one ph0_1) (qq (SlF.one ph0_2) zo))) (fun b1 h2 hS3=>?_)
 simp only [kc,zf1,B0,reduceIte,reduceEqDiff]
 refine jo (cs:=[.int .i64 v_1.Term,.int .i64 v_1.Leader]) hS3 rfl rfl rfl (fun b5 h6 hS7=>?_)
 simp only [jg,B0,reduceIte,reduceEqDiff]
 refine zw hS7 (fun b9 h10 hS11=>?_)
 simp only [qd,qa,B0,reduceIte,reduceEqDiff]
 refine zy (Sep.m1 hS11) hW (by simp only [B0,reduceIte,reduceEqDiff]) (fun h13 hS14=>?_)
 simp only [zv,qwz,qg,qf,qt,qb,Nat.reduceAdd,Nat.zero_add,Nat.add_zero,qu,qo,B0,reduceIte,reduceEqDiff]
 refine qh (v := .int .i64 v_1.Term) rfl ?_
 simp only [qx,qb,yh,qd,B0,reduceIte,reduceEqDiff]
 refine z7 4 (fun fr' h'=>Sep h' lo ([Blk1 b1 [pv0_0,pv0_1,pv0_2] 31]++([Blk1 b9 [.nil,.nil,
   .nil] 31]++(pc0_0++(pc0_1++(pc0_2++(S0))))))∧fr' 15 = .bool ((decide (v_1.Term=1))||(decide
   (v_1.Term=5)))∧fr' 2 = .ptr b1 0∧fr' 3 = .ref [.int .i64 v_1.Term,.int .i64 v_1.Leader] 0∧fr' 4 = .ptr b9 0) (fun Q15 hN16=>?_) ?_
 ·simp only [List.take_succ_cons,List.take_zero]
  simp only [qc (g:=11),B0,reduceIte,reduceEqDiff]
  refine qy (t:=(decide (v_1.Term=1))) (fun hg17=>?_) (fun hg17=>?_)
  ·simp only [hg17,qc (g:=11),zq,qs,qb,zj,qa,qn,B0,reduceIte,reduceEqDiff]
   exact hN16 _ _ ⟨(Sep.m4 (Sep.m3 (Sep.m4 (Sep.m4 (Sep.m4 hS14))))),by rw [orT hg17]; simp only [B0,reduceIte,reduceEqDiff],rfl,rfl,rfl⟩
  ·simp only [hg17,qc (g:=11),qp,qt,qb,Nat.reduceAdd,Nat.zero_add,Nat.add_zero,qu,qo,B0,reduceIte,reduceEqDiff]
   refine qh (v := .int .i64 v_1.Term) rfl ?_
   simp only [hg17,qc (g:=11),qp,qx,qb,yh,qs,zk,qa,qn,B0,reduceIte,reduceEqDiff]
   exact hN16 _ _ ⟨(Sep.m4 (Sep.m3 (Sep.m4 (Sep.m4 (Sep.m4 hS14))))),by rw [orF hg17]; simp only [B0,reduceIte,reduceEqDiff],rfl,rfl,rfl⟩
 rintro fr18 h23 ⟨hS24,f19,f20,f21,f22⟩
 simp only [List.drop_succ_cons,List.drop_zero]
 simp only [qa,quz,f19,ze,B0,reduceIte,reduceEqDiff]
 refine zf (t:=((decide (v_1.Term=1))||(decide (v_1.Term=5)))) (fun hc25=>?_) (fun hc25=>?_)
 ·rw [iteT hc25] at hF
  simp only [qvs,qg,qf,f20,qo,B0,reduceIte,reduceEqDiff]
  refine qh (v := .agg [pv0_0,pv0_1,pv0_2]) ((zz (Sep.bk _ _ _ hS24)).trans rfl) ?_
  simp only [f21,qt,qb,Nat.reduceAdd,Nat.zero_add,Nat.add_zero,qu,qo,B0,reduceIte,reduceEqDiff]
  refine qh (v := .int .i64 v_1.Leader) rfl ?_
  simp only [qv,B0,reduceIte,reduceEqDiff]
  refine je rfl (qm (jm (qm (SlN.snap ph0_0 _ (Sep.m2 hS24) rfl Server.RO) (qm (SlF.snap ph0_1 (Sep.m3 hS24) rfl (fun _=>rfl) (fun _=>rfl)) (qm
    (SlF.snap ph0_2 (Sep.m4 hS24) rfl (fun _=>rfl) (fun _=>rfl)) qz)))) (qm zb qz)) (qbc (fun b hb=>decide_eq_true hb) v_0 v_1.Leader _ rfl) ?_
  simp only [jj,qb,j9,qa,q36,ze,B0,reduceIte,reduceEqDiff]
  refine zf (t:=(!(jp v_0 v_1.Leader))) (fun hc26=>?_) (fun hc26=>?_)
  ·rw [iteT hc26] at hF
   simp only [qg,qf,f20,qo,B0,reduceIte,reduceEqDiff]
   refine qh (v := .agg [pv0_0,pv0_1,pv0_2]) ((zz (Sep.bk _ _ _ hS24)).trans rfl) ?_
   simp only [f22,zl,B0,reduceIte,reduceEqDiff]
   refine q9 (us:=[pv0_0,pv0_1,pv0_2]) rfl (cs':=[pv0_0,pv0_1,
     pv0_2]) (Sep.m1 hS24) hW rfl (qq (SlN.one ph0_0) (qq (SlF.one ph0_1) (qq (SlF.one ph0_2) zo))) (nle rfl) rfl (fun h27 hS28=>?_)
   simp only [qd,qa,za,B0,reduceIte,reduceEqDiff]
   have he:=qk hF
   subst he
   refine jt (qm (j6 (bb:=b9) (oo:=0) (v := .agg [pv0_0,pv0_1,
     pv0_2]) (f22) ((zz (Sep.bk _ _ _ hS28)).trans rfl)) (qm (yn (v := .bool false) (rfl)) qz)) ?_
   exact ⟨pc0_0,pv0_1,pc0_1,pv0_2,pc0_2,by first | trivial | rfl,ph0_0,ph0_1,ph0_2,(Sep.m2 (Sep.m2 (Sep.m2 (Sep.dc ((Sep.dc (hS28)))))))⟩
  rw [iteF hc26] at hF
  simp only [zi,q35,qg,qf,f21,qt,qb,Nat.reduceAdd,Nat.zero_add,Nat.add_zero,qu,qo,B0,reduceIte,reduceEqDiff]
  refine qh (v := .int .i64 v_1.Term) rfl ?_
  simp only [qx,qb,yh,qa,q3o,ze,B0,reduceIte,reduceEqDiff]
  refine zf (t:=(decide (v_1.Term=1))) (fun hc29=>?_) (fun hc29=>?_)
  ·rw [iteT hc29] at hF
   simp only [q0p,qg,qf,f20,qo,B0,reduceIte,reduceEqDiff]
   refine qh (v := .agg [pv0_0,pv0_1,pv0_2]) ((zz (Sep.bk _ _ _ hS24)).trans rfl) ?_
   simp only [f21,qt,qb,Nat.reduceAdd,Nat.zero_add,Nat.add_zero,qu,qo,B0,reduceIte,reduceEqDiff]
   refine qh (v := .int .i64 v_1.Leader) rfl ?_
   obtain ⟨v30,hx31,hF32⟩:=qj hF
   simp only [qv,B0,reduceIte,reduceEqDiff]
   refine kg rfl (qkt hW v_0 pv0_0 pc0_0 ph0_0 pv0_1 pc0_1 ph0_1 pv0_2 pc0_2 ph0_2 v_1.Leader v30 hx31 (Sep.m4 (Sep.m4 (Sep.m4 hS24)))) ?_
   rintro _ h43 ⟨c33,v35,c36,v39,c40,rfl,hv34,hv37,hv41,hS44⟩
   simp only [yu,qb,yz,yy,f22,zl,B0,reduceIte,reduceEqDiff]
   refine q9 (us:=[pv0_0,v35,v39]) rfl (cs':=[pv0_0,v35,
     v39]) (Sep.m4 hS44) hW rfl (qq (SlN.one hv34) (qq (SlF.one hv37) (qq (SlF.one hv41) zo))) (nle rfl) rfl (fun h45 hS46=>?_)
   simp only [qd,qa,za,B0,reduceIte,reduceEqDiff]
   have he:=qk hF32
   subst he
   refine jt (qm (j6 (bb:=b9) (oo:=0) (v := .agg [pv0_0,v35,
     v39]) (f22) ((zz (Sep.bk _ _ _ hS46)).trans rfl)) (qm (yn (v := .bool v30.2) (rfl)) qz)) ?_
   exact ⟨c33,v35,c36,v39,c40,by first | trivial | rfl,hv34,hv37,hv41,(Sep.m2 (Sep.m2 (Sep.m2 (Sep.dc (Sep.m3 (Sep.dc (hS46)))))))⟩
  rw [iteF hc29] at hF
  simp only [zi,q2f,qg,qf,f20,qt,qb,Nat.reduceAdd,Nat.zero_add,Nat.add_zero,q8,qo,B0,reduceIte,reduceEqDiff]
  refine qh (v:=pv0_0) ((jh (Sep.bk _ _ _ hS24)).trans rfl) ?_
  simp only [f21,qt,qb,Nat.reduceAdd,Nat.zero_add,Nat.add_zero,qu,qo,B0,reduceIte,reduceEqDiff]
  refine qh (v := .int .i64 v_1.Leader) rfl ?_
  obtain ⟨x47,hx48,hF49⟩:=qj hF
  simp only [jr,B0,reduceIte,reduceEqDiff]
  obtain ⟨b50,hb51⟩:=SlN.isrow ph0_0 (wg hx48)
  refine qh (SlN.ia ph0_0 hb51 hx48) ?_
  obtain ⟨c52,cs53,os54,hv55,hR56,hS57⟩:=SlG.opn (SlN.toG ph0_0 hb51 Server.RO.len) hx48 ju Server.RO.len (Sep.m2 hS24)
  obtain ⟨v59,c60,v63,c64,hv61,hv65,rfl,rfl⟩:=hR56
  have hS58:=Sep.no2 hS57
  simp only [qo,B0,reduceIte,reduceEqDiff]
  refine qh (v := .agg [.int .i64 x47.Term,.int .i64 x47.Voted,.bool x47.Stands,.bool x47.Leads,v59,v63]) ((SlG.lds (o:=0) hv55 rfl hx48 hS58 (nle rfl)).trans rfl) ?_
  simp only [jg,B0,reduceIte,reduceEqDiff]
  refine zw hS58 (fun b67 h68 hS69=>?_)
  simp only [zl,B0,reduceIte,reduceEqDiff]
  refine q9 (us:=[.int .i64 x47.Term,.int .i64 x47.Voted,.bool x47.Stands,.bool x47.Leads,v59,v63]) rfl (cs':=[.int .i64 x47.Term,.int .i64 x47.Voted,
    .bool x47.Stands,.bool x47.Leads,v59,
    v63]) hS69 hW rfl (qq rfl (qq rfl (qq rfl (qq rfl (qq (SlF.one hv61) (qq (SlF.one hv65) zo)))))) (nle rfl) rfl (fun h71 hS72=>?_)
  simp only [qa,q02,qg,qf,qt,qb,Nat.reduceAdd,Nat.zero_add,Nat.add_zero,q8,zl,B0,reduceIte,reduceEqDiff]
  refine q9 (us:=[.bool false]) rfl (cs':=[.int .i64 x47.Term,.int .i64 x47.Voted,.bool false,.bool x47.Leads,v59,
    v63]) hS72 hW rfl rfl (nle rfl) rfl (fun h73 hS74=>?_)
  simp only [qa,q3k,qg,qf,qt,qb,Nat.reduceAdd,Nat.zero_add,Nat.add_zero,q8,zl,B0,reduceIte,reduceEqDiff]
  refine q9 (us:=[.bool false]) rfl (cs':=[.int .i64 x47.Term,.int .i64 x47.Voted,.bool false,.bool false,v59,
    v63]) hS74 hW rfl rfl (nle rfl) rfl (fun h75 hS76=>?_)
  simp only [qa,q5v,qg,qf,qt,qb,Nat.reduceAdd,Nat.zero_add,Nat.add_zero,q8,zl,B0,reduceIte,reduceEqDiff]
  refine q9 (us:=[.nil]) rfl (cs':=[.int .i64 x47.Term,.int .i64 x47.Voted,.bool false,.bool false,.nil,v63]) hS76 hW rfl rfl (nle rfl) rfl (fun h77 hS78=>?_)
  simp only [qa,q5r,qg,qf,f20,qt,qb,Nat.reduceAdd,Nat.zero_add,Nat.add_zero,q8,qo,B0,reduceIte,reduceEqDiff]
  refine qh (v:=pv0_0) ((jh (Sep.bk _ _ _ (Sep.m4 hS78))).trans rfl) ?_
  simp only [f21,qt,qb,Nat.reduceAdd,Nat.zero_add,Nat.add_zero,qu,qo,B0,reduceIte,reduceEqDiff]
  refine qh (v := .int .i64 v_1.Leader) rfl ?_
  simp only [qo,B0,reduceIte,reduceEqDiff]
  refine qh (v := .agg [.int .i64 x47.Term,.int .i64 x47.Voted,.bool false,.bool false,.nil,v63]) ((zz (Sep.bk _ _ _ hS78)).trans rfl) ?_
  simp only [jr,B0,reduceIte,reduceEqDiff]
  refine qh (SlG.ia hv55 hx48) ?_
  simp only [zl,B0,reduceIte,reduceEqDiff]
  refine y7 (n:=6) (us:=[.int .i64 x47.Term,.int .i64 x47.Voted,.bool false,.bool false,.nil,v63]) (cs:=[.int .i64 x47.Term,.int .i64 x47.Voted,
    .bool x47.Stands,.bool x47.Leads,v59,v63]) (o:=0) (cs':=[.int .i64 x47.Term,.int .i64 x47.Voted,.bool false,.bool false,.nil,
    v63]) rfl hv55 rfl hx48 (Sep.m1 hS78) hW rfl (qq rfl (qq rfl (qq rfl (qq rfl (qq rfl (qq (SlF.one hv65) zo)))))) (nle rfl) rfl
    (fun c81 h79 hv82 hS80=>?_)
  simp only [qa,qg,qf,f20,qo,B0,reduceIte,reduceEqDiff]
  refine qh (v := .agg [pv0_0,pv0_1,pv0_2]) ((zz (Sep.bk _ _ _ (Sep.m4 hS80))).trans rfl) ?_
  simp only [f22,zl,B0,reduceIte,reduceEqDiff]
  refine q9 (us:=[pv0_0,pv0_1,pv0_2]) rfl (cs':=[pv0_0,pv0_1,
    pv0_2]) (Sep.m5 hS80) hW rfl (qq (SlG.one hv82) (qq (SlF.one ph0_1) (qq (SlF.one ph0_2) zo))) (nle rfl) rfl (fun h83 hS84=>?_)
  simp only [qd,qa,za,B0,reduceIte,reduceEqDiff]
  obtain ⟨c85,hv86,hS87⟩:=SlG.cls (e':=(Server.mk x47.Term x47.Voted false false [] x47.Log)) (c:=c81) (os:=[]++(c64)) hv82 rfl hx48 ju (Server.RI (x :=
    (Server.mk x47.Term x47.Voted false false [] x47.Log)) SlF.nil hv65) (Sep.ni2 (c1:=[]) (c2:=c64) (S:=([Blk1 b9 [pv0_0,pv0_1,
    pv0_2] 31]++([Blk1 b67 [.int .i64 x47.Term,.int .i64 x47.Voted,.bool false,.bool false,.nil,v63] 46]++(c60++([Blk1 b1 [pv0_0,pv0_1,
    pv0_2] 31]++(pc0_1++(pc0_2++(S0)))))))) ((Sep.m2 (Sep.m4 hS84)) : Sep _ lo (c81++(c64++([Blk1 b9 [pv0_0,pv0_1,pv0_2] 31]++([Blk1 b67 [.int .i64 x47.Term,
    .int .i64 x47.Voted,.bool false,.bool false,.nil,v63] 46]++(c60++([Blk1 b1 [pv0_0,pv0_1,pv0_2] 31]++(pc0_1++(pc0_2++(S0)))))))))))
  have hx88:=wq (x':=(Server.mk x47.Term x47.Voted false false [] x47.Log)) hx48
  have hv89:=SlG.toN hv86
  have he:=qk hF49
  subst he
  refine jt (qm (j6 (bb:=b9) (oo:=0) (v := .agg [pv0_0,pv0_1,
    pv0_2]) (f22) ((zz (Sep.bk _ _ _ (Sep.m1 hS87))).trans rfl)) (qm (yn (v := .bool true) (rfl)) qz)) ?_
  exact ⟨c85,pv0_1,pc0_1,pv0_2,pc0_2,by first | trivial | rfl,hv89,ph0_1,ph0_2,
    (Sep.m2 (Sep.m2 (Sep.m2 (Sep.dc (Sep.m1 (Sep.dc (Sep.m1 (Sep.dc (Sep.m1 (Sep.dc (Sep.m1 hS87)))))))))))⟩
 rw [iteF hc25] at hF
 simp only [zi,qrv,qg,qf,f21,qt,qb,Nat.reduceAdd,Nat.zero_add,Nat.add_zero,qu,qo,B0,reduceIte,reduceEqDiff]
 refine qh (v := .int .i64 v_1.Term) rfl ?_
 simp only [qv,B0,reduceIte,reduceEqDiff]
 refine je rfl (qm zb (qm zb (qm zb qz))) (u7 (fun b hb=>decide_eq_true hb) v_1.Term 2 4 _ rfl) ?_
 simp only [jj,qb,j9,qd,B0,reduceIte,reduceEqDiff]
 refine z7 4 (fun fr' h'=>Sep h' lo ([Blk1 b1 [pv0_0,pv0_1,pv0_2] 31]++([Blk1 b9 [.nil,.nil,
   .nil] 31]++(pc0_0++(pc0_1++(pc0_2++(S0))))))∧fr' 55 = .bool ((!(jd v_1.Term 2 4))||(decide
   (v_1.Leader<0)))∧fr' 2 = .ptr b1 0∧fr' 3 = .ref [.int .i64 v_1.Term,.int .i64 v_1.Leader] 0∧fr' 4 = .ptr b9 0) (fun Q90 hN91=>?_) ?_
 ·simp only [List.take_succ_cons,List.take_zero]
  simp only [qc (g:=51),B0,reduceIte,reduceEqDiff]
  refine qy (t:=(!(jd v_1.Term 2 4))) (fun hg92=>?_) (fun hg92=>?_)
  ·simp only [hg92,qc (g:=51),zq,qs,qb,zj,qa,qn,B0,reduceIte,reduceEqDiff]
   exact hN91 _ _ ⟨(Sep.m4 (Sep.m4 (Sep.m4 (Sep.m4 (Sep.m4 hS24))))),by rw [orT hg92]; simp only [B0,reduceIte,reduceEqDiff],f20,f21,f22⟩
  ·simp only [hg92,qc (g:=51),qp,f21,qt,qb,Nat.reduceAdd,Nat.zero_add,Nat.add_zero,qu,qo,B0,reduceIte,reduceEqDiff]
   refine qh (v := .int .i64 v_1.Leader) rfl ?_
   simp only [hg92,qc (g:=51),qp,qx,qb,qdj,qs,zk,qa,qn,B0,reduceIte,reduceEqDiff]
   exact hN91 _ _ ⟨(Sep.m4 (Sep.m4 (Sep.m4 (Sep.m4 (Sep.m4 hS24))))),by rw [orF hg92]; simp only [B0,reduceIte,reduceEqDiff],f20,f21,f22⟩
 rintro fr93 h98 ⟨hS99,f94,f95,f96,f97⟩
 simp only [List.drop_succ_cons,List.drop_zero]
 simp only [f94,qd,B0,reduceIte,reduceEqDiff]
 refine z7 7 (fun fr' h'=>Sep h' lo ([Blk1 b1 [pv0_0,pv0_1,pv0_2] 31]++([Blk1 b9 [.nil,.nil,
   .nil] 31]++(pc0_0++(pc0_1++(pc0_2++(S0))))))∧fr' 63 = .bool (((!(jd v_1.Term 2 4))||(decide (v_1.Leader<0)))||(decide
   ((List.length v_0.Post:Int)≤v_1.Leader)))∧fr' 2 = .ptr b1 0∧fr' 3 = .ref [.int .i64 v_1.Term,.int .i64 v_1.Leader] 0∧fr' 4 = .ptr b9 0) (fun Q100 hN101=>?_) ?_
 ·simp only [List.take_succ_cons,List.take_zero]
  simp only [qc (g:=56),B0,reduceIte,reduceEqDiff]
  refine qy (t:=((!(jd v_1.Term 2 4))||(decide (v_1.Leader<0)))) (fun hg102=>?_) (fun hg102=>?_)
  ·simp only [hg102,qc (g:=56),zq,qs,qb,zj,qa,qn,B0,reduceIte,reduceEqDiff]
   exact hN101 _ _ ⟨(Sep.m4 (Sep.m4 (Sep.m4 (Sep.m4 (Sep.m4 hS99))))),by rw [orT hg102]; simp only [B0,reduceIte,reduceEqDiff],f95,f96,f97⟩
  ·simp only [hg102,qc (g:=56),qp,f96,qt,qb,Nat.reduceAdd,Nat.zero_add,Nat.add_zero,qu,qo,B0,reduceIte,reduceEqDiff]
   refine qh (v := .int .i64 v_1.Leader) rfl ?_
   simp only [hg102,qc (g:=56),qp,f95,qt,qb,Nat.reduceAdd,Nat.zero_add,Nat.add_zero,q8,qo,B0,reduceIte,reduceEqDiff]
   refine qh (v:=pv0_1) ((jh (Sep.bk _ _ _ hS99)).trans rfl) ?_
   simp only [hg102,qc (g:=56),qp,zr,qb,SlF.plen ph0_1,qx,qh4,qs,zk,qa,qn,B0,reduceIte,reduceEqDiff]
   exact hN101 _ _ ⟨(Sep.m4 (Sep.m4 (Sep.m4 (Sep.m4 (Sep.m4 hS99))))),by rw [orF hg102]; simp only [B0,reduceIte,reduceEqDiff],f95,f96,f97⟩
 rintro fr103 h108 ⟨hS109,f104,f105,f106,f107⟩
 simp only [List.drop_succ_cons,List.drop_zero]
 simp only [qa,qxx,f104,ze,B0,reduceIte,reduceEqDiff]
 refine zf (t:=(((!(jd v_1.Term 2 4))||(decide (v_1.Leader<0)))||(decide ((List.length v_0.Post:Int)≤v_1.Leader)))) (fun hc110=>?_) (fun hc110=>?_)
 ·rw [iteT hc110] at hF
  simp only [qg,qf,f105,qo,B0,reduceIte,reduceEqDiff]
  refine qh (v := .agg [pv0_0,pv0_1,pv0_2]) ((zz (Sep.bk _ _ _ hS109)).trans rfl) ?_
  simp only [f107,zl,B0,reduceIte,reduceEqDiff]
  refine q9 (us:=[pv0_0,pv0_1,pv0_2]) rfl (cs':=[pv0_0,pv0_1,
    pv0_2]) (Sep.m1 hS109) hW rfl (qq (SlN.one ph0_0) (qq (SlF.one ph0_1) (qq (SlF.one ph0_2) zo))) (nle rfl) rfl (fun h111 hS112=>?_)
  simp only [qd,qa,za,B0,reduceIte,reduceEqDiff]
  have he:=qk hF
  subst he
  refine jt (qm (j6 (bb:=b9) (oo:=0) (v := .agg [pv0_0,pv0_1,
    pv0_2]) (f107) ((zz (Sep.bk _ _ _ hS112)).trans rfl)) (qm (yn (v := .bool false) (rfl)) qz)) ?_
  exact ⟨pc0_0,pv0_1,pc0_1,pv0_2,pc0_2,by first | trivial | rfl,ph0_0,ph0_1,ph0_2,(Sep.m2 (Sep.m2 (Sep.m2 (Sep.dc ((Sep.dc (hS112)))))))⟩
 rw [iteF hc110] at hF
 simp only [zi,qxe,qg,qf,f105,qt,qb,Nat.reduceAdd,Nat.zero_add,Nat.add_zero,q8,qo,B0,reduceIte,reduceEqDiff]
 refine qh (v:=pv0_1) ((jh (Sep.bk _ _ _ hS109)).trans rfl) ?_
 simp only [f106,qt,qb,Nat.reduceAdd,Nat.zero_add,Nat.add_zero,qu,qo,B0,reduceIte,reduceEqDiff]
 refine qh (v := .int .i64 v_1.Leader) rfl ?_
 obtain ⟨kp,hx114,hF115⟩:=qj hF
 simp only [jr,B0,reduceIte,reduceEqDiff]
 obtain ⟨b116,hb117⟩:=SlF.isrow ph0_1 (wg hx114)
 refine qh (SlF.ia ph0_1 hb117 hx114) ?_
 simp only [qo,B0,reduceIte,reduceEqDiff]
 refine qh (v := .agg [.int .i64 kp.To,.int .i64 kp.From,.int .i64 kp.Term,.bool kp.Asks,.int .i64 kp.Last,.int .i64 kp.Long,
   .bool kp.Grant]) ((SlF.lds (o:=0) ph0_1 (Sep.m3 hS109) hb117 hx114 (fun _=>rfl) (nle rfl)).trans rfl) ?_
 simp only [jg,B0,reduceIte,reduceEqDiff]
 refine zw hS109 (fun b118 h119 hS120=>?_)
 simp only [zl,B0,reduceIte,reduceEqDiff]
 refine q9 (us:=[.int .i64 kp.To,.int .i64 kp.From,.int .i64 kp.Term,.bool kp.Asks,.int .i64 kp.Last,.int .i64 kp.Long,
   .bool kp.Grant]) rfl (cs':=[.int .i64 kp.To,.int .i64 kp.From,.int .i64 kp.Term,.bool kp.Asks,.int .i64 kp.Last,.int .i64 kp.Long,
   .bool kp.Grant]) hS120 hW rfl rfl (nle rfl) rfl (fun h122 hS123=>?_)
 simp only [qa,B0,reduceIte,reduceEqDiff]
 refine zy hS123 hW (by simp only [B0,reduceIte,reduceEqDiff]) (fun h124 hS125=>?_)
 simp only [zv,qsd,qg,qf,f106,qt,qb,Nat.reduceAdd,Nat.zero_add,Nat.add_zero,qu,qo,B0,reduceIte,reduceEqDiff]
 refine qh (v := .int .i64 v_1.Term) rfl ?_
 simp only [qx,qb,yh,qa,qx8,ze,B0,reduceIte,reduceEqDiff]
 refine zf (t:=(decide (v_1.Term=4))) (fun hc126=>?_) (fun hc126=>?_)
 ·rw [iteT hc126] at hF115
  simp only [qvi,qg,qf,f105,qt,qb,Nat.reduceAdd,Nat.zero_add,Nat.add_zero,q8,qo,B0,reduceIte,reduceEqDiff]
  refine qh (v:=pv0_1) ((jh (Sep.bk _ _ _ hS125)).trans rfl) ?_
  simp only [zr,qb,SlF.plen ph0_1,qx,yh,qa,qv9,ze,B0,reduceIte,reduceEqDiff]
  refine zf (t:=(decide ((List.length v_0.Post:Int)=20))) (fun hc127=>?_) (fun hc127=>?_)
  ·rw [iteT hc127] at hF115
   simp only [qg,qf,f105,qo,B0,reduceIte,reduceEqDiff]
   refine qh (v := .agg [pv0_0,pv0_1,pv0_2]) ((zz (Sep.bk _ _ _ hS125)).trans rfl) ?_
   simp only [f107,zl,B0,reduceIte,reduceEqDiff]
   refine q9 (us:=[pv0_0,pv0_1,pv0_2]) rfl (cs':=[pv0_0,pv0_1,
     pv0_2]) (Sep.m1 hS125) hW rfl (qq (SlN.one ph0_0) (qq (SlF.one ph0_1) (qq (SlF.one ph0_2) zo))) (nle rfl) rfl (fun h128 hS129=>?_)
   simp only [qd,qa,za,B0,reduceIte,reduceEqDiff]
   have he:=qk hF115
   subst he
   refine jt (qm (j6 (bb:=b9) (oo:=0) (v := .agg [pv0_0,pv0_1,
     pv0_2]) (f107) ((zz (Sep.bk _ _ _ hS129)).trans rfl)) (qm (yn (v := .bool false) (rfl)) qz)) ?_
   exact ⟨pc0_0,pv0_1,pc0_1,pv0_2,pc0_2,by first | trivial | rfl,ph0_0,ph0_1,ph0_2,(Sep.m2 (Sep.m2 (Sep.m2 (Sep.dc ((Sep.dc (hS129)))))))⟩
  rw [iteF hc127] at hF115
  simp only [zi,qsj,qg,qf,f105,qt,qb,Nat.reduceAdd,Nat.zero_add,Nat.add_zero,q8,qo,B0,reduceIte,reduceEqDiff]
  refine qh (v:=pv0_1) ((jh (Sep.bk _ _ _ hS125)).trans rfl) ?_
  simp only [qo,B0,reduceIte,reduceEqDiff]
  refine qh (v := .agg [.int .i64 kp.To,.int .i64 kp.From,.int .i64 kp.Term,.bool kp.Asks,.int .i64 kp.Last,.int .i64 kp.Long,.bool kp.Grant]) rfl ?_
  simp only [j8,evp,B0,reduceIte,reduceEqDiff]
  refine jy (n:=7) (f:=qe) [kp] hS125 rfl rfl (fun v130 c131 h132 hv133 hS134=>?_)
  simp only [wu,B0,reduceIte,reduceEqDiff]
  obtain ⟨l136,hx137,hF138⟩:=qj hF115
  refine yx (f:=qe) ph0_1 (Sep.m4 hS134) hW (fun _=>rfl) (fun _=>rfl) (SlF.first hv133 hS134 (fun _=>rfl)) hx137 (fun v139 c140 h141 hv142 hS143=>?_)
  simp only [f105,qt,qb,Nat.reduceAdd,Nat.zero_add,Nat.add_zero,q8,zl,B0,reduceIte,reduceEqDiff]
  refine q9 (us:=[v139]) (js (SlF.one hv142)) (cs':=[pv0_0,v139,
    pv0_2]) (Sep.m2 hS143) hW rfl (qq (SlF.one hv142) zo) (nle rfl) rfl (fun h145 hS146=>?_)
  simp only [qa,qg,qf,f105,qo,B0,reduceIte,reduceEqDiff]
  refine qh (v := .agg [pv0_0,v139,pv0_2]) ((zz (Sep.bk _ _ _ hS146)).trans rfl) ?_
  simp only [f107,zl,B0,reduceIte,reduceEqDiff]
  refine q9 (us:=[pv0_0,v139,pv0_2]) rfl (cs':=[pv0_0,v139,
    pv0_2]) (Sep.m3 hS146) hW rfl (qq (SlN.one ph0_0) (qq (SlF.one hv142) (qq (SlF.one ph0_2) zo))) (nle rfl) rfl (fun h147 hS148=>?_)
  simp only [qd,qa,za,B0,reduceIte,reduceEqDiff]
  have he:=qk hF138
  subst he
  refine jt (qm (j6 (bb:=b9) (oo:=0) (v := .agg [pv0_0,v139,
    pv0_2]) (f107) ((zz (Sep.bk _ _ _ hS148)).trans rfl)) (qm (yn (v := .bool true) (rfl)) qz)) ?_
  exact ⟨pc0_0,v139,c140,pv0_2,pc0_2,by first | trivial | rfl,ph0_0,hv142,ph0_2,(Sep.m2 (Sep.m1 (Sep.m2 (Sep.dc (Sep.m1 (Sep.dc ((Sep.dc (hS148)))))))))⟩
 rw [iteF hc126] at hF115
 simp only [zi,qr7,qg,jv,w6,evp,B0,reduceIte,reduceEqDiff]
 refine wh (n:=7) (f:=qe) ([] : List Letter) hS125 rfl rfl (fun v150 c151 h152 hv153 hS154 hq149=>?_)
 simp only [f105,jc,qr,Nat.reduceAdd,Nat.zero_add,Nat.add_zero,q8,ja,B0,reduceIte,reduceEqDiff]
 refine qw (v:=pv0_1) ((jh (Sep.bk _ _ _ (Sep.m1 hS154))).trans rfl) ?_
 simp only [f106,jc,qr,Nat.reduceAdd,Nat.zero_add,Nat.add_zero,qu,ja,B0,reduceIte,reduceEqDiff]
 refine qw (v := .int .i64 v_1.Leader) rfl ?_
 obtain ⟨l156,hx157,hF158⟩:=qj hF115
 simp only [qn0,Option.map_some,Option.map_none,B0,reduceIte,reduceEqDiff]
 obtain ⟨w159,i160,he161,hw162⟩:=SlF.win (f:=qe) (ty:=93) none (some v_1.Leader) ph0_1 hx157 (Sep.m4 hS154)
 refine qw he161 ?_
 simp only [qid,B0,reduceIte,reduceEqDiff]
 obtain ⟨l163,hx164,hF165⟩:=qj hF158
 have hq166:=nwq (fun z hz=>Sep.dj (Sep.m1 (Sep.m1 hS154)) qfq (SlF.rowfp hv153 z hz))
 have hq167:=nwq (fun z hz=>Sep.dj (Sep.m1 (Sep.m2 hS154)) qfq (SlF.rowfp hv153 z hz))
 refine qlk qjz ?_
 refine wv (f:=qe) hv153 hS154 hW (fun _=>rfl) (fun _=>rfl) (SlW.first hw162 ph0_1 (Sep.m4 hS154) (fun _=>rfl)) hx164
   (fun v168 c169 h170 hv171 hS172=>?_)
 simp only [f105,qbn,qr,Nat.reduceAdd,Nat.zero_add,Nat.add_zero,q8,ue,B0,reduceIte,reduceEqDiff]
 refine q76 (Sep.ltk hS125) (nw1 hq166 nw0) ?_
 refine qw (v:=pv0_1) ((jh (Sep.bk _ _ _ (Sep.m1 hS172))).trans rfl) ?_
 simp only [f106,qbn,qr,Nat.reduceAdd,Nat.zero_add,Nat.add_zero,qu,ue,qcp,B0,reduceIte,reduceEqDiff]
 refine qw (v := .int .i64 v_1.Leader) rfl ?_
 obtain ⟨l174,hx175,hF176⟩:=qj hF165
 simp only [q9t,qr,qam,q9w,Option.map_some,Option.map_none,B0,reduceIte,reduceEqDiff]
 obtain ⟨w177,i178,he179,hw180⟩:=SlF.win (f:=qe) (ty:=93) (some (IntKind.wrap .i64 (v_1.Leader+1))) none ph0_1 hx175 (Sep.m4 hS172)
 refine qw he179 ?_
 simp only [qd2,B0,reduceIte,reduceEqDiff]
 obtain ⟨l181,hx182,hF183⟩:=qj hF176
 refine wv (f:=qe) hv171 hS172 hW (fun _=>rfl) (fun _=>rfl) (SlW.first hw180 ph0_1 (Sep.m4 hS172) (fun _=>rfl)) hx182
   (fun v184 c185 h186 hv187 hS188=>?_)
 simp only [f105,jc,qr,Nat.reduceAdd,Nat.zero_add,Nat.add_zero,q8,qbm,B0,reduceIte,reduceEqDiff]
 refine wa (us:=[v184]) (js (SlF.one hv187)) (cs':=[pv0_0,v184,
   pv0_2]) (Sep.m1 hS188) hW rfl (qq (SlF.one hv187) zo) (nle rfl) rfl (fun h190 hS191=>?_)
 simp only [zn,qxj,qg,qf,f106,qt,qb,Nat.reduceAdd,Nat.zero_add,Nat.add_zero,qu,qo,B0,reduceIte,reduceEqDiff]
 refine qh (v := .int .i64 v_1.Term) rfl ?_
 simp only [qx,qb,yh,qa,qsx,ze,B0,reduceIte,reduceEqDiff]
 refine zf (t:=(decide (v_1.Term=2))) (fun hc192=>?_) (fun hc192=>?_)
 ·rw [iteT hc192] at hF183
  simp only [qx1,qf,f105,qo,B0,reduceIte,reduceEqDiff]
  refine qh (v := .agg [pv0_0,v184,pv0_2]) ((zz (Sep.bk _ _ _ hS191)).trans rfl) ?_
  simp only [qo,B0,reduceIte,reduceEqDiff]
  refine qh (v := .agg [.int .i64 kp.To,.int .i64 kp.From,.int .i64 kp.Term,.bool kp.Asks,.int .i64 kp.Last,.int .i64 kp.Long,.bool kp.Grant]) rfl ?_
  obtain ⟨v193,hx194,hF195⟩:=qj hF183
  simp only [qv,B0,reduceIte,reduceEqDiff]
  refine kg rfl (qm4 hW k (Election.mk v_0.Servers l181 v_0.Led) pv0_0 pc0_0 ph0_0 v184 c185 hv187 pv0_2 pc0_2 ph0_2 kp v193 hx194 (Sep.m4 (Sep.m2
    (Sep.m5 hS191)))) ?_
  rintro _ h206 ⟨c196,v198,c199,v202,c203,rfl,hv197,hv200,hv204,hS207⟩
  simp only [f105,zl,B0,reduceIte,reduceEqDiff]
  refine q9 (us:=[pv0_0,v198,v202]) rfl (cs':=[pv0_0,v198,
    v202]) (Sep.m3 hS207) hW rfl (qq (SlN.one hv197) (qq (SlF.one hv200) (qq (SlF.one hv204) zo))) (nle rfl) rfl (fun h208 hS209=>?_)
  simp only [qa,qg,qf,f105,qo,B0,reduceIte,reduceEqDiff]
  refine qh (v := .agg [pv0_0,v198,v202]) ((zz (Sep.bk _ _ _ hS209)).trans rfl) ?_
  simp only [f107,zl,B0,reduceIte,reduceEqDiff]
  refine q9 (us:=[pv0_0,v198,v202]) rfl (cs':=[pv0_0,v198,
    v202]) (Sep.m4 hS209) hW rfl (qq (SlN.one hv197) (qq (SlF.one hv200) (qq (SlF.one hv204) zo))) (nle rfl) rfl (fun h210 hS211=>?_)
  simp only [qd,qa,za,B0,reduceIte,reduceEqDiff]
  have he:=qk hF195
  subst he
  refine jt (qm (j6 (bb:=b9) (oo:=0) (v := .agg [pv0_0,v198,
    v202]) (f107) ((zz (Sep.bk _ _ _ hS211)).trans rfl)) (qm (yn (v := .bool true) (rfl)) qz)) ?_
  exact ⟨c196,v198,c199,v202,c203,by first | trivial | rfl,hv197,hv200,hv204,(Sep.m2 (Sep.m2 (Sep.m2 (Sep.dc (Sep.m3 (Sep.dc ((Sep.dc (hS211)))))))))⟩
 rw [iteF hc192] at hF183
 simp only [zi,qg,qf,f105,qo,B0,reduceIte,reduceEqDiff]
 refine qh (v := .agg [pv0_0,v184,pv0_2]) ((zz (Sep.bk _ _ _ hS191)).trans rfl) ?_
 simp only [f107,zl,B0,reduceIte,reduceEqDiff]
 refine q9 (us:=[pv0_0,v184,pv0_2]) rfl (cs':=[pv0_0,v184,
   pv0_2]) (Sep.m2 hS191) hW rfl (qq (SlN.one ph0_0) (qq (SlF.one hv187) (qq (SlF.one ph0_2) zo))) (nle rfl) rfl (fun h212 hS213=>?_)
 simp only [qd,qa,za,B0,reduceIte,reduceEqDiff]
 have he:=qk hF183
 subst he
 refine jt (qm (j6 (bb:=b9) (oo:=0) (v := .agg [pv0_0,v184,
   pv0_2]) (f107) ((zz (Sep.bk _ _ _ hS213)).trans rfl)) (qm (yn (v := .bool true) (rfl)) qz)) ?_
 exact ⟨pc0_0,v184,c185,pv0_2,pc0_2,by first | trivial | rfl,ph0_0,hv187,ph0_2,(Sep.m2 (Sep.m1 (Sep.m2 (Sep.dc (Sep.m2 (Sep.dc ((Sep.dc (hS213)))))))))⟩
theorem qff {W:Nat→Bool}{h:Heap} (hW:∀ b,
  (geL h.length) b→W b=true) (e_0:Election) (r:Election) (hF:qce e_0=some r) : Ret E W 52 [.agg [lst qi e_0.Servers,lst qe e_0.Post,
  lst ql e_0.Led]] h (fun v h'=>∃ rv0_0 rc0_0 rv0_1 rc0_1 rv0_2 rc0_2,v = .agg [rv0_0,rv0_1,
  rv0_2]∧SlN Server.R 6 46 rv0_0 r.Servers rc0_0∧SlF qe 7 93 rv0_1 r.Post rc0_1∧SlF ql 2 39 rv0_2 r.Led rc0_2∧Sep h' (geL h.length) (rc0_0 ++
  (rc0_1++(rc0_2++([]))))):=by
 refine Ret.of (fn:=x52) rfl (Run.of ?_)
 unfold qce at hF
 have zf0:zh [.agg [lst qi e_0.Servers,lst qe e_0.Post,lst ql e_0.Led]] 0 = .agg [lst qi e_0.Servers,lst qe e_0.Post,
   lst ql e_0.Led]:=rfl
 generalize zh [.agg [lst qi e_0.Servers,lst qe e_0.Post,lst ql e_0.Led]]=fr0 at zf0 ⊢
 have hS:Sep h (geL h.length) []:=Sep.nil h
 simp only [x52,qg,qf,kc,zf0,B0,reduceIte,reduceEqDiff]
 refine jo (cs:=[lst qi e_0.Servers,lst qe e_0.Post,lst ql e_0.Led]) hS rfl rfl rfl (fun b1 h2 hS3=>?_)
 simp only [jg,B0,reduceIte,reduceEqDiff]
 refine zw hS3 (fun b5 h6 hS7=>?_)
 simp only [qa,B0,reduceIte,reduceEqDiff]
 refine zy (Sep.m1 hS7) hW (by simp only [B0,reduceIte,reduceEqDiff]) (fun h9 hS10=>?_)
 simp only [zv,q4q,qg,jv,w6,evp,B0,reduceIte,reduceEqDiff]
 refine wh (n:=7) (f:=qe) ([] : List Letter) hS10 rfl rfl (fun v12 c13 h14 hv15 hS16 hq11=>?_)
 simp only [qmv,evp,B0,reduceIte,reduceEqDiff]
 refine qev (n:=2) (f:=ql) ([] : List Vote) hS16 rfl rfl (fun v18 c19 h20 hv21 hS22=>?_)
 simp only [qk4,B0,reduceIte,reduceEqDiff]
 refine qgz hS22 (fun b24 h25 hS26=>?_)
 simp only [jc,qr,Nat.reduceAdd,Nat.zero_add,Nat.add_zero,qu,ja,B0,reduceIte,reduceEqDiff]
 refine qw (v:=lst qe e_0.Post) rfl ?_
 simp only [qid,B0,reduceIte,reduceEqDiff]
 obtain ⟨l28,hx29,hF30⟩:=qj hF
 have hq31:=nwq (fun z hz=>Sep.dj (Sep.m3 (Sep.m3 hS26)) qfq (SlF.rowfp hv15 z hz))
 refine qlk qjz ?_
 refine wv (f:=qe) hv15 (Sep.m2 hS26) hW (fun _=>rfl) (fun _=>rfl) (ub (fun _=>rfl)) hx29 (fun v32 c33 h34 hv35 hS36=>?_)
 simp only [qbn,qr,Nat.reduceAdd,Nat.zero_add,Nat.add_zero,qu,ue,qcp,B0,reduceIte,reduceEqDiff]
 refine qw (v:=lst ql e_0.Led) rfl ?_
 simp only [qd2,B0,reduceIte,reduceEqDiff]
 obtain ⟨l38,hx39,hF40⟩:=qj hF30
 refine wv (f:=ql) hv21 (Sep.m2 hS36) hW (fun _=>rfl) (fun _=>rfl) (ub (fun _=>rfl)) hx39 (fun v41 c42 h43 hv44 hS45=>?_)
 simp only [qci,evp,B0,reduceIte,reduceEqDiff]
 refine qw (v := .agg [.nil,v32,v41]) (qeo (qaj (us:=[v32]) (vs:=[.nil,v32,
   .nil]) (js (SlF.one hv35)) rfl (nle rfl) (qq (SlF.one hv35) zo) rfl (qaj (us:=[v41]) (vs:=[.nil,v32,
   v41]) (js (SlF.one hv44)) rfl (nle rfl) (qq (SlF.one hv44) zo) rfl qfr))) ?_
 simp only [qbm,B0,reduceIte,reduceEqDiff]
 refine wa (us:=[.nil,v32,v41]) rfl (cs':=[.nil,v32,
   v41]) (Sep.m2 hS45) hW rfl (qq rfl (qq (SlF.one hv35) (qq (SlF.one hv44) zo))) (nle rfl) rfl (fun h47 hS48=>?_)
 simp only [zn,q2y,qg,qf,qt,qb,Nat.reduceAdd,Nat.zero_add,Nat.add_zero,qu,qo,B0,reduceIte,reduceEqDiff]
 refine qh (v:=lst qi e_0.Servers) rfl ?_
 simp only [zr,qb,zx,qd,qa,B0,reduceIte,reduceEqDiff]
 obtain ⟨oc61,hX63,hk64⟩:=kn hF40
 simp only [q4e]
 refine wb (σ:=Election) e_0.Servers (fun i59 x60 s140=>qbu l28 l38 i59 x60 s140) (fun s fr' h'=>∃ v56 c57,
   fr' 2 = .ptr b5 0∧fr' 3 = .ptr b24 0∧fr' 16=lst qi e_0.Servers∧SlN Server.R 6 46 v56 s.Servers c57∧Sep h' (geL h.length) ([Blk1 b5 [.nil,.nil,
   .nil] 31]++([Blk1 b24 [v56,v32,v41] 31]++(c57++(c33++(c42++([]))))))) hX63 ⟨.nil,[],rfl,rfl,rfl,SlN.nil,
   ((Sep.m3 (Sep.m2 (Sep.m2 (Sep.m1 hS48)))) : Sep _ (geL h.length) ([Blk1 b5 [.nil,.nil,.nil] 31]++([Blk1 b24 [.nil,v32,
   v41] 31]++(c33++(c42++([]))))))⟩ (by simp only [B0,reduceIte,reduceEqDiff]) (by simp only [B0,reduceIte,
   reduceEqDiff]) (fun _ _ _ h=>h) rfl rfl (fun _ _ _ _ h=>h) (fun _ _ _ _ h=>h) (fun _ _ _ _ h=>h) (by decide) ?_ ?_
 ·rintro i59 x60 s54 fr73 h74 hx79 ⟨v56,c57,f76,f77,f78,hv58,hS75⟩ f80 f81 oc62 hF65 hr66 Q67 hN68 hB72 hK69 hR70 hE71
  unfold qbu at hF65
  simp only [q2a,qg,qf,f78,f80,jr,B0,reduceIte,reduceEqDiff]
  refine qh (v := .ref (qi x60) 0) (wc hx79 rfl) ?_
  simp only [qo,B0,reduceIte,reduceEqDiff]
  refine qh (v := .agg [.int .i64 x60.Term,.int .i64 x60.Voted,.bool x60.Stands,.bool x60.Leads,lst cI x60.Got,lst cI x60.Log]) rfl ?_
  simp only [jg,B0,reduceIte,reduceEqDiff]
  refine zw hS75 (fun b82 h83 hS84=>?_)
  simp only [zl,B0,reduceIte,reduceEqDiff]
  refine q9 (us:=[.int .i64 x60.Term,.int .i64 x60.Voted,.bool x60.Stands,.bool x60.Leads,lst cI x60.Got,lst cI x60.Log]) rfl (cs':=[.int .i64 x60.Term,
    .int .i64 x60.Voted,.bool x60.Stands,.bool x60.Leads,lst cI x60.Got,lst cI x60.Log]) hS84 hW rfl rfl (nle rfl) rfl (fun h86 hS87=>?_)
  simp only [qa,q24,qg,qf,j8,evp,B0,reduceIte,reduceEqDiff]
  refine jy (n:=1) (f:=cI) ([] : List Int) hS87 rfl rfl (fun v88 c89 h90 hv91 hS92=>?_)
  simp only [qt,qb,Nat.reduceAdd,Nat.zero_add,Nat.add_zero,q8,qo,B0,reduceIte,reduceEqDiff]
  refine qh (v:=lst cI x60.Got) ((jh (Sep.bk _ _ _ (Sep.m1 hS92))).trans rfl) ?_
  simp only [wu,B0,reduceIte,reduceEqDiff]
  obtain ⟨l94,hx95,hF96⟩:=qj hF65
  refine yx (f:=cI) hv91 hS92 hW (fun _=>rfl) (fun _=>rfl) (ub (fun _=>rfl)) hx95 (fun v97 c98 h99 hv100 hS101=>?_)
  simp only [qt,qb,Nat.reduceAdd,Nat.zero_add,Nat.add_zero,q8,zl,B0,reduceIte,reduceEqDiff]
  refine q9 (us:=[v97]) (js (SlF.one hv100)) (cs':=[.int .i64 x60.Term,.int .i64 x60.Voted,.bool x60.Stands,.bool x60.Leads,v97,
    lst cI x60.Log]) (Sep.m1 hS101) hW rfl (qq (SlF.one hv100) zo) (nle rfl) rfl (fun h103 hS104=>?_)
  simp only [qa,q3b,qg,qf,j8,evp,B0,reduceIte,reduceEqDiff]
  refine jy (n:=1) (f:=cI) ([] : List Int) hS104 rfl rfl (fun v105 c106 h107 hv108 hS109=>?_)
  simp only [qt,qb,Nat.reduceAdd,Nat.zero_add,Nat.add_zero,q8,qo,B0,reduceIte,reduceEqDiff]
  refine qh (v:=lst cI x60.Log) ((jh (Sep.bk _ _ _ (Sep.m1 hS109))).trans rfl) ?_
  simp only [wu,B0,reduceIte,reduceEqDiff]
  obtain ⟨l111,hx112,hF113⟩:=qj hF96
  refine yx (f:=cI) hv108 hS109 hW (fun _=>rfl) (fun _=>rfl) (ub (fun _=>rfl)) hx112 (fun v114 c115 h116 hv117 hS118=>?_)
  simp only [qt,qb,Nat.reduceAdd,Nat.zero_add,Nat.add_zero,q8,zl,B0,reduceIte,reduceEqDiff]
  refine q9 (us:=[v114]) (js (SlF.one hv117)) (cs':=[.int .i64 x60.Term,.int .i64 x60.Voted,.bool x60.Stands,.bool x60.Leads,v97,
    v114]) (Sep.m1 hS118) hW rfl (qq (SlF.one hv117) zo) (nle rfl) rfl (fun h120 hS121=>?_)
  simp only [qa,q0q,qf,f77,qt,qb,Nat.reduceAdd,Nat.zero_add,Nat.add_zero,q8,qo,B0,reduceIte,reduceEqDiff]
  refine qh (v:=v56) ((jh (Sep.bk _ _ _ (Sep.m4 hS121))).trans rfl) ?_
  simp only [qo,B0,reduceIte,reduceEqDiff]
  refine qh (v := .agg [.int .i64 x60.Term,.int .i64 x60.Voted,.bool x60.Stands,.bool x60.Leads,v97,v114]) ((zz (Sep.bk _ _ _ hS121)).trans rfl) ?_
  simp only [j8,evp,B0,reduceIte,reduceEqDiff]
  refine qfd (R:=Server.R) (n:=6) (cs:=[.int .i64 x60.Term,.int .i64 x60.Voted,.bool x60.Stands,.bool x60.Leads,v97,
    v114]) (os:=c98++(c115)) (Sep.bi2 (c1:=c98) (c2:=c115) (Sep.m2 (Sep.m1 hS121))) (qaj (us:=[.int .i64 x60.Term,.int .i64 x60.Voted,.bool x60.Stands,
    .bool x60.Leads,v97,v114]) (vs:=[.int .i64 x60.Term,.int .i64 x60.Voted,.bool x60.Stands,.bool x60.Leads,v97,
    v114]) rfl rfl (nle rfl) (qq rfl (qq rfl (qq rfl (qq rfl (qq (SlF.one hv100) (qq (SlF.one hv117) zo)))))) rfl qfr) (Server.RI (x :=
    (Server.mk x60.Term x60.Voted x60.Stands x60.Leads l94 l111)) hv100 hv117) rfl (fun v122 c123 h124 hv125 hS126=>?_)
  simp only [wu,B0,reduceIte,reduceEqDiff]
  obtain ⟨l128,hx129,hF130⟩:=qj hF113
  refine qhv (R:=Server.R) (c:=c57) hv58 hv125 (Sep.m4 hS126) hW Server.RO.len Server.RO.one hx129 (fun v131 c132 h133 hv134 hS135=>?_)
  simp only [f77,qt,qb,Nat.reduceAdd,Nat.zero_add,Nat.add_zero,q8,zl,B0,reduceIte,reduceEqDiff]
  refine q9 (us:=[v131]) (js (SlN.one hv134)) (cs':=[v131,v32,v41]) (Sep.m3 hS135) hW rfl (qq (SlN.one hv134) zo) (nle rfl) rfl (fun h137 hS138=>?_)
  simp only [qa,qn,B0,reduceIte,reduceEqDiff]
  have e139:=qk hF130
  exact hN68 _ _ _ e139.symm ⟨v131,c132,f76,f77,f78,hv134,(Sep.m4 (Sep.m3 (Sep.m3 (Sep.m4 (Sep.m4 (Sep.dc (Sep.m2 hS138)))))))⟩ (f80) (f81)
 rintro s141 fr146 h147 rfl ⟨v143,c144,f149,f150,f151,hv145,hS148⟩
 dsimp only [jnO] at hk64
 unfold qi7 at hk64
 simp only [qg,qf,f150,qo,B0,reduceIte,reduceEqDiff]
 refine qh (v := .agg [v143,v32,v41]) ((zz (Sep.bk _ _ _ (Sep.m1 hS148))).trans rfl) ?_
 simp only [f149,zl,B0,reduceIte,reduceEqDiff]
 refine q9 (us:=[v143,v32,v41]) rfl (cs':=[v143,v32,
   v41]) hS148 hW rfl (qq (SlN.one hv145) (qq (SlF.one hv35) (qq (SlF.one hv44) zo))) (nle rfl) rfl (fun h152 hS153=>?_)
 simp only [qa,za,B0,reduceIte,reduceEqDiff]
 have he:=qk hk64
 subst he
 refine xe (bb:=b5) (oo:=0) (v := .agg [v143,v32,v41]) (by simp only [f149,B0,reduceIte,reduceEqDiff]) ((zz (Sep.bk _ _ _ hS153)).trans rfl) ?_
 exact ⟨v143,c144,v32,c33,v41,c42,by first | trivial | rfl,hv145,hv35,hv44,(Sep.m2 (Sep.m2 (Sep.m2 (Sep.dc ((Sep.dc (hS153)))))))⟩
theorem qjc {W:Nat→Bool}{h:Heap} (hW:∀ b,
  (geL h.length) b→W b=true) (k:Nat) (logs_0:List (List Int)) (l_1:List ElectStep) (r:Election × (List Bool) × Bool)
  (hF:yo k logs_0 l_1=some r) : Ret E W 9 [lst (cL cI) logs_0,lst kj l_1] h (fun v h'=>∃ rv0_0 rc0_0 rv0_1 rc0_1 rv0_2 rc0_2 rv1 rc1,
  v = .tup [.agg [rv0_0,rv0_1,rv0_2],rv1,
  .bool r.2.2]∧SlN Server.R 6 46 rv0_0 r.1.Servers rc0_0∧SlF qe 7 93 rv0_1 r.1.Post rc0_1∧SlF ql 2 39 rv0_2 r.1.Led rc0_2∧SlF cB 1 4 rv1 r.2.1 rc1∧Sep h'
  (geL h.length) (rc0_0++(rc0_1++(rc0_2++(rc1++([])))))):=by
 refine Ret.of (fn:=x9) rfl (Run.of ?_)
 unfold yo at hF
 have zf0:zh [lst (cL cI) logs_0,lst kj l_1] 0=lst (cL cI) logs_0:=rfl
 have zf1:zh [lst (cL cI) logs_0,lst kj l_1] 1=lst kj l_1:=rfl
 generalize zh [lst (cL cI) logs_0,lst kj l_1]=fr0 at zf0 zf1 ⊢
 have hS:Sep h (geL h.length) []:=Sep.nil h
 simp only [x9,qg,qf,jg,B0,reduceIte,reduceEqDiff]
 refine zw hS (fun b1 h2 hS3=>?_)
 obtain ⟨v5,hx6,hF7⟩:=qj hF
 simp only [qd,qa,q6o,qg,qf,zf0,qv,B0,reduceIte,reduceEqDiff]
 refine qb7 rfl hS3 (qm zm qz) (qd4 (fun b hb=>decide_eq_true hb) logs_0 v5 hx6) ?_
 rintro _ h20 ⟨v8,c9,v12,c13,v16,c17,rfl,hv10,hv14,hv18,hS21⟩
 refine ⟨_,qcv (qq (qbw (qq (SlN.free1 hv10) (qq (SlF.free1 hv14) (qq (SlF.free1 hv18) zo)))) (qq rfl zo)),hS21,
   (jq (SlN.pf hv10 Server.RO) (jq (SlF.pf hv14 (fun _=>rfl)) (jq (SlF.pf hv18 (fun _=>rfl)) uf))),fun h22 hS23=>?_⟩
 have hS24:Sep h22 (geL h.length) (c9++(c13++(c17++([Blk1 b1 [.nil,.nil,.nil] 31]++([]))))):=by simpa only [List.append_assoc,List.nil_append] using hS23
 simp only [qd,yu,qb,yz,yy,jg,B0,reduceIte,reduceEqDiff]
 refine zw hS24 (fun b25 h26 hS27=>?_)
 simp only [zl,B0,reduceIte,reduceEqDiff]
 refine q9 (us:=[v8,v12,v16]) rfl (cs':=[v8,v12,
   v16]) hS27 hW rfl (qq (SlN.one hv10) (qq (SlF.one hv14) (qq (SlF.one hv18) zo))) (nle rfl) rfl (fun h29 hS30=>?_)
 simp only [qd,qa,q68,qg,qf,jj,qb,j9,B0,reduceIte,reduceEqDiff]
 refine z7 4 (fun fr' h'=>Sep h' (geL h.length) ([Blk1 b1 [.nil,.nil,.nil] 31]++([Blk1 b25 [v8,v12,
   v16] 31]++(c9++(c13++(c17++([]))))))∧fr' 25 = .bool ((!v5.2)||(decide ((80:Int) <
   (List.length l_1:Int))))∧fr' 1=lst kj l_1∧fr' 4 = .ptr b1 0∧fr' 7 = .ptr b25 0) (fun Q31 hN32=>?_) ?_
 ·simp only [List.take_succ_cons,List.take_zero]
  simp only [qc (g:=21),B0,reduceIte,reduceEqDiff]
  refine qy (t:=(!v5.2)) (fun hg33=>?_) (fun hg33=>?_)
  ·simp only [hg33,qc (g:=21),zq,qs,qb,zj,qa,qn,B0,reduceIte,reduceEqDiff]
   exact hN32 _ _ ⟨(Sep.m4 (Sep.m3 (Sep.m3 (Sep.m3 (Sep.m3 hS30))))),by rw [orT hg33]; simp only [B0,reduceIte,reduceEqDiff],zf1,rfl,rfl⟩
  ·simp only [hg33,qc (g:=21),qp,zf1,qd,zr,qb,zx,qx,xb,qs,zk,qa,qn,B0,reduceIte,
    reduceEqDiff]
   exact hN32 _ _ ⟨(Sep.m4 (Sep.m3 (Sep.m3 (Sep.m3 (Sep.m3 hS30))))),by rw [orF hg33]; simp only [B0,reduceIte,reduceEqDiff],zf1,rfl,rfl⟩
 rintro fr34 h39 ⟨hS40,f35,f36,f37,f38⟩
 simp only [List.drop_succ_cons,List.drop_zero]
 simp only [qa,q88,f35,ze,B0,reduceIte,reduceEqDiff]
 refine zf (t:=((!v5.2)||(decide ((80:Int)<(List.length l_1:Int))))) (fun hc41=>?_) (fun hc41=>?_)
 ·rw [iteT hc41] at hF7
  simp only [q9c,qg,qf,run_build,evp,B0,reduceIte,reduceEqDiff]
  refine qh (v := .agg [.nil,.nil,.nil]) rfl ?_
  simp only [f37,zl,B0,reduceIte,reduceEqDiff]
  refine q9 (us:=[.nil,.nil,.nil]) rfl (cs':=[.nil,.nil,.nil]) hS40 hW rfl rfl (nle rfl) rfl (fun h42 hS43=>?_)
  simp only [qd,qa,za,B0,reduceIte,reduceEqDiff]
  have he:=qk hF7
  subst he
  refine jt (qm (j6 (bb:=b1) (oo:=0) (v := .agg [.nil,.nil,
    .nil]) (f37) ((zz (Sep.bk _ _ _ hS43)).trans rfl)) (qm (yn (v := .nil) (rfl)) (qm (yn (v := .bool false) (rfl)) qz))) ?_
  exact ⟨.nil,[],.nil,[],.nil,[],.nil,[],by first | trivial | rfl,SlN.nil,SlF.nil,SlF.nil,SlF.nil,
    ((Sep.dc ((Sep.dc ((Sep.dc ((Sep.dc ((Sep.dc (hS43)))))))))) : Sep _ (geL h.length) ([]))⟩
 rw [iteF hc41] at hF7
 simp only [zi,q1z,qg,qf,qd,qa,q1u,f36,zr,qb,zx,B0,reduceIte,reduceEqDiff]
 obtain ⟨oc82,hX84,hk85⟩:=kn hF7
 simp only [q92]
 refine wb (σ:=(List Bool) × Election) l_1 (fun i80 x81 s207=>uk k i80 x81 s207.1 s207.2) (fun s fr' h'=>∃ v64 c65 v69 c70 v73 c74 v77 c78,
   fr' 4 = .ptr b1 0∧fr' 7 = .ptr b25 0∧fr' 9=v64∧fr' 27=lst kj l_1∧SlF cB 1 4 v64 s.1 c65∧SlN Server.R 6 46 v69 s.2.Servers c70∧SlF qe 7 93 v73 s.2.Post c74∧SlF ql 2 39 v77 s.2.Led c78∧Sep h'
   (geL h.length) ([Blk1 b1 [.nil,.nil,.nil] 31]++([Blk1 b25 [v69,v73,v77] 31]++(c65++(c70++(c74++(c78++([])))))))) hX84 ⟨.nil,[],v8,c9,v12,c13,v16,c17,
   f37,f38,rfl,rfl,SlF.nil,hv10,hv14,hv18,((Sep.m4 (Sep.m4 (Sep.m4 (Sep.m4 (Sep.m4 hS40))))) : Sep _ (geL h.length) ([Blk1 b1 [.nil,.nil,.nil] 31]++([Blk1 b25 [v8,
   v12,v16] 31]++(c9++(c13++(c17++([])))))))⟩ (by simp only [B0,reduceIte,reduceEqDiff]) (by simp only [B0,reduceIte,
   reduceEqDiff]) (fun _ _ _ h=>h) rfl rfl (fun _ _ _ _ h=>h) (fun _ _ _ _ h=>h) (fun _ _ _ _ h=>h) (by decide) ?_ ?_
 ·rintro i80 x81 ⟨s62,s67⟩ fr94 h95 hx101 ⟨v64,c65,v69,c70,v73,c74,v77,c78,f97,f98,f99,f100,hv66,hv71,hv75,hv79,
   hS96⟩ f102 f103 oc83 hF86 hr87 Q88 hN89 hB93 hK90 hR91 hE92
  dsimp only at *
  unfold uk at hF86
  simp only [q99,qg,qf,f100,f102,jr,B0,reduceIte,reduceEqDiff]
  refine qh (v := .ref (kj x81) 0) (wc hx101 rfl) ?_
  simp only [qo,B0,reduceIte,reduceEqDiff]
  refine qh (v := .agg [.int .i64 x81.Term,.int .i64 x81.Leader]) rfl ?_
  simp only [jg,B0,reduceIte,reduceEqDiff]
  refine zw hS96 (fun b104 h105 hS106=>?_)
  simp only [zl,B0,reduceIte,reduceEqDiff]
  refine q9 (us:=[.int .i64 x81.Term,.int .i64 x81.Leader]) rfl (cs':=[.int .i64 x81.Term,
    .int .i64 x81.Leader]) hS106 hW rfl rfl (nle rfl) rfl (fun h108 hS109=>?_)
  simp only [qa,B0,reduceIte,reduceEqDiff]
  refine zy hS109 hW (by simp only [B0,reduceIte,reduceEqDiff]) (fun h110 hS111=>?_)
  simp only [zv,zaf,qg,jv,qk4,B0,reduceIte,reduceEqDiff]
  refine qgz hS111 (fun b112 h113 hS114=>?_)
  simp only [f98,ja,B0,reduceIte,reduceEqDiff]
  refine qw (v := .agg [v69,v73,v77]) ((zz (Sep.bk _ _ _ (Sep.m2 hS114))).trans rfl) ?_
  obtain ⟨v116,hx117,hF118⟩:=qj hF86
  simp only [ua,B0,reduceIte,reduceEqDiff]
  refine qwv rfl hS114 (qm (jm (qm (SlN.snap hv71 _ (Sep.m4 hS114) rfl Server.RO) (qm (SlF.snap hv75 (Sep.m5 hS114) rfl (fun _=>rfl) (fun _=>rfl)) (qm
    (SlF.snap hv79 (Sep.m6 hS114) rfl (fun _=>rfl) (fun _=>rfl)) qz)))) qz) (qff (fun b hb=>decide_eq_true hb) s67 v116 hx117) ?_
  rintro _ h131 ⟨v119,c120,v123,c124,v127,c128,rfl,hv121,hv125,hv129,hS132⟩
  refine ⟨_,qjp (qq (SlN.free1 hv121) (qq (SlF.free1 hv125) (qq (SlF.free1 hv129) zo))),hS132,
    (jq (SlN.pf hv121 Server.RO) (jq (SlF.pf hv125 (fun _=>rfl)) (jq (SlF.pf hv129 (fun _=>rfl)) uf))),fun h133 hS134=>?_⟩
  have hS135:Sep h133 (geL h.length) (c120++(c124++(c128++([Blk1 b112 [.nil,.nil,.nil] 31]++([Blk1 b1 [.nil,.nil,.nil] 31]++([Blk1 b25 [v69,v73,
    v77] 31]++(c65++(c70++(c74++(c78++([]))))))))))):=by simpa only [List.append_assoc,List.nil_append] using hS134
  simp only [ue,qcp,B0,reduceIte,reduceEqDiff]
  refine qw (v := .agg [.int .i64 x81.Term,.int .i64 x81.Leader]) rfl ?_
  obtain ⟨v136,hx137,hF138⟩:=qj hF118
  simp only [yf,B0,reduceIte,reduceEqDiff]
  refine qnm rfl (qjb hW k v116 v119 c120 hv121 v123 c124 hv125 v127 c128 hv129 x81 v136 hx137 (Sep.m2 (Sep.m2 (Sep.m2 hS135)))) ?_
  rintro _ h149 ⟨c139,v141,c142,v145,c146,rfl,hv140,hv143,hv147,hS150⟩
  simp only [jf,qr,qnv,yz,quw,yy,qbm,B0,reduceIte,reduceEqDiff]
  refine wa (us:=[v119,v141,v145]) rfl (cs':=[v119,v141,
    v145]) (Sep.m3 hS150) hW rfl (qq (SlN.one hv140) (qq (SlF.one hv143) (qq (SlF.one hv147) zo))) (nle rfl) rfl (fun h151 hS152=>?_)
  simp only [jf,qr,zn,B0,reduceIte,reduceEqDiff]
  refine zy hS152 hW (by simp only [B0,reduceIte,reduceEqDiff]) (fun h153 hS154=>?_)
  simp only [zv,q85,qg,qf,qd,qa,q8s,ze,B0,reduceIte,reduceEqDiff]
  obtain ⟨s155,hX169,hk170⟩:=qj hF138
  refine uq (t:=v136.2) (fun fr' h'=>∃ v157 c158 v161 c162 v165 c166,
    fr' 4 = .ptr b1 0∧fr' 7 = .ptr b25 0∧fr' 9=v64∧fr' 13 = .bool v136.2∧fr' 27=lst kj l_1∧fr' 28 = .int .i64
    (List.length l_1:Int)∧fr' 29 = .int .i64
    (i80:Int)∧SlN Server.R 6 46 v157 s155.Servers c158∧SlF qe 7 93 v161 s155.Post c162∧SlF ql 2 39 v165 s155.Led c166∧Sep h' (geL h.length)
    ([Blk1 b1 [.nil,.nil,.nil] 31]++([Blk1 b25 [v157,v161,v165] 31]++(c65++(c158++(c162++(c166++([])))))))) (fun Q171 hN172 hR173 hE174=>⟨fun hc175=>?_,
    fun hc175=>?_⟩) ?_
  ·rw [iteT hc175] at hX169
   simp only [qf,qo,B0,reduceIte,reduceEqDiff]
   refine qh (v := .agg [v119,v141,v145]) rfl ?_
   simp only [f98,zl,B0,reduceIte,reduceEqDiff]
   refine q9 (us:=[v119,v141,v145]) rfl (cs':=[v119,v141,
     v145]) (Sep.m4 hS154) hW rfl (qq (SlN.one hv140) (qq (SlF.one hv143) (qq (SlF.one hv147) zo))) (nle rfl) rfl (fun h176 hS177=>?_)
   simp only [qa,qn,B0,reduceIte,reduceEqDiff]
   have e178:=qk hX169
   subst e178
   exact hN172 _ _ ⟨v119,c139,v141,c142,v145,c146,f97,f98,f99,rfl,f100,f103,f102,hv140,hv143,hv147,
     (Sep.m5 (Sep.m4 (Sep.m5 (Sep.m3 (Sep.m3 (Sep.m3 (Sep.dc (Sep.m6 (Sep.dc (Sep.m6 (Sep.dc (Sep.m6 hS177))))))))))))⟩
  ·rw [iteF hc175] at hX169
   simp only [zi,qn,B0,reduceIte,reduceEqDiff]
   have e179:=qk hX169
   subst e179
   exact hN172 _ _ ⟨v69,c70,v73,c74,v77,c78,f97,f98,f99,rfl,f100,f103,f102,hv71,hv75,hv79,
     (Sep.m5 (Sep.m5 (Sep.m5 (Sep.m5 (Sep.m5 (Sep.m5 (Sep.dc ((Sep.dc ((Sep.dc (hS154))))))))))))⟩
  rintro fr180 h181 ⟨v157,c158,v161,c162,v165,c166,f183,f184,f185,f186,f187,f188,f189,hv159,hv163,hv167,hS182⟩
  unfold qc3 at hk170
  simp only [q8t,qf,f185,qd,f186,j8,evp,B0,reduceIte,reduceEqDiff]
  refine jy (n:=1) (f:=cB) [v136.2] hS182 rfl rfl (fun v190 c191 h192 hv193 hS194=>?_)
  simp only [wu,B0,reduceIte,reduceEqDiff]
  obtain ⟨l196,hx197,hF198⟩:=qj hk170
  refine yx (f:=cB) hv66 (Sep.m3 hS194) hW (fun _=>rfl) (fun _=>rfl) (SlF.first hv193 hS194 (fun _=>rfl)) hx197 (fun v199 c200 h201 hv202 hS203=>?_)
  simp only [qd,qa,qn,B0,reduceIte,reduceEqDiff]
  have e205:=qk hF198
  exact hN89 _ _ _ e205.symm ⟨v199,c200,v157,c158,v161,c162,v165,c166,f183,f184,rfl,f187,hv202,hv159,hv163,hv167,
    (Sep.m5 (Sep.m5 (Sep.m3 (Sep.m5 (Sep.m5 (Sep.m5 (Sep.dc (Sep.m1 hS203))))))))⟩ (f189) (f188)
 rintro ⟨s208,s213⟩ fr226 h227 rfl ⟨v210,c211,v215,c216,v219,c220,v223,c224,f229,f230,f231,f232,hv212,hv217,hv221,hv225,hS228⟩
 dsimp only [jnO] at hk85
 dsimp only at *
 unfold qc5 at hk85
 simp only [q3e,qg,qf,f230,qo,B0,reduceIte,reduceEqDiff]
 refine qh (v := .agg [v215,v219,v223]) ((zz (Sep.bk _ _ _ (Sep.m1 hS228))).trans rfl) ?_
 obtain ⟨v233,hx234,hF235⟩:=qj hk85
 simp only [qv,B0,reduceIte,reduceEqDiff]
 refine qb7 rfl hS228 (qm (jm (qm (SlN.snap hv217 _ (Sep.m3 hS228) rfl Server.RO) (qm (SlF.snap hv221 (Sep.m4 hS228) rfl (fun _=>rfl) (fun _=>rfl)) (qm
   (SlF.snap hv225 (Sep.m5 hS228) rfl (fun _=>rfl) (fun _=>rfl)) qz)))) qz) (qff (fun b hb=>decide_eq_true hb) s213 v233 hx234) ?_
 rintro _ h248 ⟨v236,c237,v240,c241,v244,c245,rfl,hv238,hv242,hv246,hS249⟩
 refine ⟨_,qjp (qq (SlN.free1 hv238) (qq (SlF.free1 hv242) (qq (SlF.free1 hv246) zo))),hS249,
   (jq (SlN.pf hv238 Server.RO) (jq (SlF.pf hv242 (fun _=>rfl)) (jq (SlF.pf hv246 (fun _=>rfl)) uf))),fun h250 hS251=>?_⟩
 have hS252:Sep h250 (geL h.length) (c237++(c241++(c245++([Blk1 b1 [.nil,.nil,.nil] 31]++([Blk1 b25 [v215,v219,
   v223] 31]++(c211++(c216++(c220++(c224++([])))))))))):=by simpa only [List.append_assoc,List.nil_append] using hS251
 simp only [f231,qd,f229,zl,B0,reduceIte,reduceEqDiff]
 refine q9 (us:=[v236,v240,v244]) rfl (cs':=[v236,v240,
   v244]) (Sep.m3 hS252) hW rfl (qq (SlN.one hv238) (qq (SlF.one hv242) (qq (SlF.one hv246) zo))) (nle rfl) rfl (fun h253 hS254=>?_)
 simp only [qd,qa,za,B0,reduceIte,reduceEqDiff]
 have he:=qk hF235
 subst he
 refine jt (qm (j6 (bb:=b1) (oo:=0) (v := .agg [v236,v240,
   v244]) (f229) ((zz (Sep.bk _ _ _ hS254)).trans rfl)) (qm (yn (v:=v210) (rfl)) (qm (yn (v := .bool true) (rfl)) qz))) ?_
 exact ⟨v236,c237,v240,c241,v244,c245,v210,c211,by first | trivial | rfl,hv238,hv242,hv246,hv212,
   (Sep.m3 (Sep.m3 (Sep.m3 (Sep.m3 (Sep.dc (Sep.m4 (Sep.dc (Sep.m4 (Sep.dc (Sep.m4 (Sep.dc (Sep.m3 (Sep.dc (hS254))))))))))))))⟩
end Go.Proofs.Ytpddolihbnfahaa.X
