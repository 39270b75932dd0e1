/- The functions' code comes to what the plain functions say (3). -/
import Derived.Test.YtpddolihbnfahaaXAH2
set_option linter.unusedVariables false
set_option linter.unusedSimpArgs false
set_option maxRecDepth 100000
namespace Go.Proofs.Ytpddolihbnfahaa.X
open Go
open Nat (reduceEqDiff)
theorem qh7 {W:Nat→Bool}{h:Heap} (hW:∀ b,
  (geL h.length) b→W b=true) (k:Nat) (v_0:Election) (v_1:ElectStep) (r:Election × Bool)
  (hF:wy k v_0 v_1=some r) : Ret E W 50 [.agg [lst Server.cells v_0.Servers,lst Letter.cells v_0.Post,lst Vote.cells v_0.Led],.agg [.int .i64 v_1.Term,
  .int .i64 v_1.Leader]] h (fun v h'=>∃ rv0_0 rc0_0 rv0_1 rc0_1 rv0_2 rc0_2,v = .tup [.agg [rv0_0,rv0_1,rv0_2],
  .bool r.2]∧SlN Server.R 6 46 rv0_0 r.1.Servers rc0_0∧SlF Letter.cells 7 93 rv0_1 r.1.Post rc0_1∧SlF Vote.cells 2 39 rv0_2 r.1.Led rc0_2∧Sep h' (geL h.length)
  (rc0_0++(rc0_1++(rc0_2++([]))))):=by
 refine Ret.of (fn:=x50) rfl (Run.of ?_)
 unfold wy at hF
 have zf0:qy [.agg [lst Server.cells v_0.Servers,lst Letter.cells v_0.Post,lst Vote.cells v_0.Led],.agg [.int .i64 v_1.Term,
   .int .i64 v_1.Leader]] 0 = .agg [lst Server.cells v_0.Servers,lst Letter.cells v_0.Post,lst Vote.cells v_0.Led]:=rfl
 have zf1:qy [.agg [lst Server.cells v_0.Servers,lst Letter.cells v_0.Post,lst Vote.cells v_0.Led],.agg [.int .i64 v_1.Term,
   .int .i64 v_1.Leader]] 1 = .agg [.int .i64 v_1.Term,.int .i64 v_1.Leader]:=rfl
 generalize qy [.agg [lst Server.cells v_0.Servers,lst Letter.cells v_0.Post,lst Vote.cells v_0.Led],.agg [.int .i64 v_1.Term,.int .i64 v_1.Leader]]=fr0 at zf0 zf1 ⊢
 have hS:Sep h (geL h.length) []:=Sep.nil h
 simp only [x50,qd,qc,kx,zf0,B0,reduceIte,reduceEqDiff]
 refine ju (cs:=[lst Server.cells v_0.Servers,lst Letter.cells v_0.Post,lst Vote.cells v_0.Led]) hS rfl rfl rfl (fun b1 h2 hS3=>?_)
 simp only [kx,zf1,B0,reduceIte,reduceEqDiff]
 refine ju (cs:=[.int .i64 v_1.Term,.int .i64 v_1.Leader]) hS3 rfl rfl rfl (fun b5 h6 hS7=>?_)
 simp only [jv,B0,reduceIte,reduceEqDiff]
 refine jb hS7 (fun b9 h10 hS11=>?_)
 simp only [qe,qa,B0,reduceIte,reduceEqDiff]
 refine jd (Sep.m2 hS11) hW (by simp only [B0,reduceIte,reduceEqDiff]) (fun h13 hS14=>?_)
 refine jd (Sep.m1 hS14) hW (by simp only [B0,reduceIte,reduceEqDiff]) (fun h15 hS16=>?_)
 simp only [jc,qrq,qd,qc,qj,B0,reduceIte,reduceEqDiff]
 refine qh (v := .agg [lst Server.cells v_0.Servers,lst Letter.cells v_0.Post,lst Vote.cells v_0.Led]) rfl ?_
 obtain ⟨v17,hx18,hF19⟩:=qi hF
 simp only [zb,B0,reduceIte,reduceEqDiff]
 refine qba rfl hS16 (qk (kq (qk zx (qk zx (qk zx zd)))) zd) (qiv (fun b hb=>decide_eq_true hb) v_0 v17 hx18) ?_
 rintro _ h32 ⟨v20,c21,v24,c25,v28,c29,rfl,hv22,hv26,hv30,hS33⟩
 refine ⟨_,qn4 (qo (SlN.free1 hv22) (qo (SlF.free1 hv26) (qo (SlF.free1 hv30) zn))),hS33,
   (j0 (SlN.pf hv22 Server.RO) (j0 (SlF.pf hv26 (fun _=>rfl)) (j0 (SlF.pf hv30 (fun _=>rfl)) xv))),fun h34 hS35=>?_⟩
 have hS36:Sep h34 (geL h.length) (c21++(c25++(c29++([Blk1 b9 [.nil,.nil,.nil] 31]++([]))))):=by simpa only [List.append_assoc,List.nil_append] using hS35
 simp only [jv,B0,reduceIte,reduceEqDiff]
 refine jb hS36 (fun b37 h38 hS39=>?_)
 simp only [ze,B0,reduceIte,reduceEqDiff]
 refine zc (us:=[v20,v24,v28]) rfl (cs':=[v20,v24,
   v28]) hS39 hW rfl (qo (SlN.one hv22) (qo (SlF.one hv26) (qo (SlF.one hv30) zn))) (Nat.le_of_ble_eq_true rfl) rfl (fun h41 hS42=>?_)
 simp only [qa,qvm,qd,qc,qe,quz,qn,qb,Nat.reduceAdd,Nat.zero_add,Nat.add_zero,qu,qj,B0,reduceIte,reduceEqDiff]
 refine qh (v := .int .i64 v_1.Term) rfl ?_
 simp only [qa,qsu,B0,reduceIte,reduceEqDiff]
 obtain ⟨oc56,hX57,hk58⟩:=jm hF19
 refine q71 (fun fr' h'=>∃ s,oc56 = .nxt s∧∃ v46 c47 v50 c51 c54,
   fr' 4 = .ptr b9 0∧fr' 6 = .ptr b37 0∧fr' 7 = .bool s.1∧SlF Letter.cells 7 93 v46 s.2.1.Post c47∧SlF Vote.cells 2 39 v50 s.2.1.Led c51∧SlN Server.R 6 46 v20 s.2.2 c54∧Sep h'
   (geL h.length) ([Blk1 b9 [.nil,.nil,.nil] 31]++([Blk1 b37 [v20,v46,v50] 31]++(c54++(c47++(c51++([]))))))) (fun Q59 hN60 hR61 hE62=>?_) ?_
 ·simp only [qsm,qd,qc,qm,qb,yi,qe,qa,q59,qr,B0,reduceIte,reduceEqDiff]
  obtain ⟨s63,hX65,hk66⟩:=qi hX57
  refine qdu (t:=(decide (v_1.Term=1))) (fun fr' h'=>fr' 2 = .ref [lst Server.cells v_0.Servers,lst Letter.cells v_0.Post,
    lst Vote.cells v_0.Led] 0∧fr' 3 = .ref [.int .i64 v_1.Term,
    .int .i64 v_1.Leader] 0∧fr' 4 = .ptr b9 0∧fr' 6 = .ptr b37 0∧fr' 7 = .bool false∧fr' 13 = .int .i64 v_1.Term∧fr' 14 = .bool s63∧Sep h' (geL h.length)
    ([Blk1 b9 [.nil,.nil,.nil] 31]++([Blk1 b37 [v20,v24,v28] 31]++(c21++(c25++(c29++([]))))))) (fun Q67 hN68 hR69 hE70=>⟨fun hc71=>?_,fun hc71=>?_⟩) ?_
  ·rw [iteT hc71] at hX65
   simp only [qt,ql,B0,reduceIte,reduceEqDiff]
   have e72:=qf hX65
   subst e72
   exact hN68 _ _ ⟨rfl,rfl,rfl,rfl,rfl,rfl,rfl,(Sep.m4 (Sep.m3 (Sep.m3 (Sep.m3 (Sep.m3 hS42)))))⟩
  ·rw [iteF hc71] at hX65
   simp only [qc,qm,qb,yi,qe,qa,ql,B0,reduceIte,reduceEqDiff]
   have e73:=qf hX65
   subst e73
   exact hN68 _ _ ⟨rfl,rfl,rfl,rfl,rfl,rfl,rfl,(Sep.m4 (Sep.m3 (Sep.m3 (Sep.m3 (Sep.m3 hS42)))))⟩
  rintro fr74 h75 ⟨f77,f78,f79,f80,f81,f82,f83,hS76⟩
  unfold k7 at hk66
  simp only [qvr,f83,qr,B0,reduceIte,reduceEqDiff]
  refine qq (t:=s63) (fun hc84=>?_) (fun hc84=>?_)
  ·rw [iteT hc84] at hk66
   simp only [qt3,qd,qc,f78,qn,qb,Nat.reduceAdd,Nat.zero_add,Nat.add_zero,qu,qj,B0,reduceIte,reduceEqDiff]
   refine qh (v := .int .i64 v_1.Leader) rfl ?_
   simp only [f77,qn,qb,Nat.reduceAdd,Nat.zero_add,Nat.add_zero,qu,qj,B0,reduceIte,reduceEqDiff]
   refine qh (v:=lst Server.cells v_0.Servers) rfl ?_
   simp only [zj,qb,zr,qm,qcz,zb,B0,reduceIte,reduceEqDiff]
   refine jg rfl (qk za (qk za (qk za zd))) (y7 (fun b hb=>decide_eq_true hb) v_1.Leader 0 (IntKind.wrap .i64
     ((List.length v_0.Servers:Int) - 1)) _ rfl) ?_
   simp only [js,qb,kt,qa,q6s,qr,B0,reduceIte,reduceEqDiff]
   refine qq (t:=(!(zl v_1.Leader 0 (IntKind.wrap .i64 ((List.length v_0.Servers:Int) - 1))))) (fun hc85=>?_) (fun hc85=>?_)
   ·rw [iteT hc85] at hk66
    simp only [qd,qc,run_build,evp,B0,reduceIte,reduceEqDiff]
    refine qh (v := .agg [.nil,.nil,.nil]) rfl ?_
    simp only [f79,ze,B0,reduceIte,reduceEqDiff]
    refine zc (us:=[.nil,.nil,.nil]) rfl (cs':=[.nil,.nil,.nil]) hS76 hW rfl rfl (Nat.le_of_ble_eq_true rfl) rfl (fun h86 hS87=>?_)
    simp only [qe,qa,qs,B0,reduceIte,reduceEqDiff]
    have e88:=qf hk66
    subst e88
    have hk58':=hk58
    dsimp only [jnO] at hk58'
    apply hR61
    have he:=qf hk58'
    subst he
    refine j7 (qk (kp (bb:=b9) (oo:=0) (v := .agg [.nil,.nil,
      .nil]) (f79) ((zw (Sep.bk _ _ _ hS87)).trans rfl)) (qk (yu (v := .bool false) (rfl)) zd)) ?_
    exact ⟨.nil,[],.nil,[],.nil,[],by first | trivial | rfl,SlN.nil,SlF.nil,SlF.nil,
      ((Sep.dc ((Sep.dc ((Sep.dc ((Sep.dc ((Sep.dc (hS87)))))))))) : Sep _ (geL h.length) ([]))⟩
   rw [iteF hc85] at hk66
   simp only [qt,q1c,qd,qc,f80,qn,qb,Nat.reduceAdd,Nat.zero_add,Nat.add_zero,qx,qj,B0,reduceIte,reduceEqDiff]
   refine qh (v:=v20) ((z9 (Sep.bk _ _ _ (Sep.m1 hS76))).trans rfl) ?_
   simp only [f78,qn,qb,Nat.reduceAdd,Nat.zero_add,Nat.add_zero,qu,qj,B0,reduceIte,reduceEqDiff]
   refine qh (v := .int .i64 v_1.Leader) rfl ?_
   obtain ⟨x89,hx90,hF91⟩:=qi hk66
   simp only [zt,B0,reduceIte,reduceEqDiff]
   obtain ⟨b92,hb93⟩:=SlN.isrow hv22 (yo hx90)
   refine qh (SlN.ia hv22 hb93 hx90) ?_
   simp only [qe,qa,q4q,qd,qc,f78,qn,qb,Nat.reduceAdd,Nat.zero_add,Nat.add_zero,qu,qj,B0,reduceIte,reduceEqDiff]
   refine qh (v := .int .i64 v_1.Term) rfl ?_
   simp only [qm,qb,yi,qa,q2v,qr,B0,reduceIte,reduceEqDiff]
   refine qq (t:=(decide (v_1.Term=5))) (fun hc94=>?_) (fun hc94=>?_)
   ·rw [iteT hc94] at hF91
    obtain ⟨c97,cs98,os99,hv100,hR101,hS102⟩:=SlG.opn (SlN.toG hv22 hb93 Server.RO.len) hx90 jp Server.RO.len (Sep.m2 hS76)
    obtain ⟨v104,c105,v108,c109,hv106,hv110,rfl,rfl⟩:=hR101
    have hS103:=Sep.no2 hS102
    simp only [q2p,qd,qc,qe,uf,qb,zy,qn,Nat.reduceAdd,Nat.zero_add,Nat.add_zero,qx,ze,B0,reduceIte,reduceEqDiff]
    refine k8 (n:=6) (us:=[.bool false]) (cs:=[.int .i64 x89.Term,.int .i64 x89.Voted,.bool x89.Stands,.bool x89.Leads,v104,
      v108]) (o:=2) (cs':=[.int .i64 x89.Term,.int .i64 x89.Voted,.bool false,.bool x89.Leads,v104,
      v108]) rfl hv100 rfl hx90 hS103 hW rfl rfl (Nat.le_of_ble_eq_true rfl) rfl (fun c112 h95 hv113 hS96=>?_)
    simp only [qa,qzi,qd,qc,qe,uf,qb,zy,qn,Nat.reduceAdd,Nat.zero_add,Nat.add_zero,qx,ze,B0,reduceIte,
      reduceEqDiff]
    refine k8 (n:=6) (us:=[.bool false]) (cs:=[.int .i64 x89.Term,.int .i64 x89.Voted,.bool false,.bool x89.Leads,v104,
      v108]) (o:=3) (cs':=[.int .i64 x89.Term,.int .i64 x89.Voted,.bool false,.bool false,v104,
      v108]) rfl hv113 rfl hx90 hS96 hW rfl rfl (Nat.le_of_ble_eq_true rfl) rfl (fun c116 h114 hv117 hS115=>?_)
    simp only [qa,q4n,qd,qc,qe,uf,qb,zy,qn,Nat.reduceAdd,Nat.zero_add,Nat.add_zero,qx,ze,B0,reduceIte,
      reduceEqDiff]
    refine k8 (n:=6) (us:=[.nil]) (cs:=[.int .i64 x89.Term,.int .i64 x89.Voted,.bool false,.bool false,v104,v108]) (o:=4) (cs':=[.int .i64 x89.Term,
      .int .i64 x89.Voted,.bool false,.bool false,.nil,v108]) rfl hv117 rfl hx90 hS115 hW rfl rfl (Nat.le_of_ble_eq_true rfl) rfl (fun c120 h118 hv121 hS119=>?_)
    simp only [qa,qd,qc,f80,qj,B0,reduceIte,reduceEqDiff]
    refine qh (v := .agg [v20,v24,v28]) ((zw (Sep.bk _ _ _ (Sep.m4 hS119))).trans rfl) ?_
    simp only [f79,ze,B0,reduceIte,reduceEqDiff]
    refine zc (us:=[v20,v24,v28]) rfl (cs':=[v20,v24,
      v28]) (Sep.m3 hS119) hW rfl (qo (SlG.one hv121) (qo (SlF.one hv26) (qo (SlF.one hv30) zn))) (Nat.le_of_ble_eq_true rfl) rfl (fun h122 hS123=>?_)
    simp only [qe,qa,qs,B0,reduceIte,reduceEqDiff]
    have e124:=qf hF91
    subst e124
    have hk58':=hk58
    dsimp only [jnO] at hk58'
    apply hR61
    obtain ⟨c125,hv126,hS127⟩:=SlG.cls (e':=(Server.mk x89.Term x89.Voted false false [] x89.Log)) (c:=c120) (os:=[]++(c109)) hv121 rfl hx90 jp (Server.RI
      (x:=(Server.mk x89.Term x89.Voted false false [] x89.Log)) SlF.nil hv110) (Sep.ni2 (c1:=[]) (c2:=c109) (S:=([Blk1 b9 [v20,v24,
      v28] 31]++(c105++([Blk1 b37 [v20,v24,v28] 31]++(c25++(c29++([]))))))) ((Sep.m2 (Sep.m3 hS123)) : Sep _ (geL h.length) (c120++(c109++([Blk1 b9 [v20,
      v24,v28] 31]++(c105++([Blk1 b37 [v20,v24,v28] 31]++(c25++(c29++([]))))))))))
    have hx128:=jz (x':=(Server.mk x89.Term x89.Voted false false [] x89.Log)) hx90
    have hv129:=SlG.toN hv126
    have he:=qf hk58'
    subst he
    refine j7 (qk (kp (bb:=b9) (oo:=0) (v := .agg [v20,v24,
      v28]) (f79) ((zw (Sep.bk _ _ _ (Sep.m1 hS127))).trans rfl)) (qk (yu (v := .bool true) (rfl)) zd)) ?_
    exact ⟨v20,c125,v24,c25,v28,c29,by first | trivial | rfl,hv129,hv26,hv30,(Sep.m2 (Sep.m2 (Sep.m2 (Sep.dc (Sep.m1 (Sep.dc (Sep.m1 (Sep.dc (Sep.m1 hS127)))))))))⟩
   rw [iteF hc94] at hF91
   simp only [qt,q0p,qc,f78,qn,qb,Nat.reduceAdd,Nat.zero_add,Nat.add_zero,qu,qj,B0,reduceIte,reduceEqDiff]
   refine qh (v := .int .i64 v_1.Leader) rfl ?_
   obtain ⟨v130,hx131,hF132⟩:=qi hF91
   simp only [f80,zb,B0,reduceIte,reduceEqDiff]
   refine x3 rfl (qht hW b37 v17 v20 c21 hv22 v24 c25 hv26 v28 c29 hv30 v_1.Leader v130 hx131 (Sep.m4 (Sep.m4 (Sep.m4 (Sep.m4 hS76))))) ?_
   rintro _ h143 ⟨c133,v135,c136,v139,c140,rfl,hv134,hv137,hv141,hS144⟩
   simp only [qe,qa,kh,ql,B0,reduceIte,reduceEqDiff]
   have e145:=qf hF132
   exact hN60 _ _ ⟨_,e145.symm,v135,c136,v139,c140,c133,f79,f80,rfl,hv137,hv141,hv134,(Sep.m4 (Sep.m3 (Sep.m3 (Sep.m3 (Sep.m3 hS144)))))⟩
  rw [iteF hc84] at hk66
  simp only [qrw,qd,qc,f82,qm,qb,yi,qe,qa,qsc,qr,B0,reduceIte,reduceEqDiff]
  obtain ⟨s146,hX148,hk149⟩:=qi hk66
  refine qdu (t:=(decide (v_1.Term=2))) (fun fr' h'=>fr' 2 = .ref [lst Server.cells v_0.Servers,lst Letter.cells v_0.Post,
    lst Vote.cells v_0.Led] 0∧fr' 3 = .ref [.int .i64 v_1.Term,
    .int .i64 v_1.Leader] 0∧fr' 4 = .ptr b9 0∧fr' 6 = .ptr b37 0∧fr' 7 = .bool false∧fr' 47 = .bool s146∧Sep h' (geL h.length) ([Blk1 b9 [.nil,.nil,
    .nil] 31]++([Blk1 b37 [v20,v24,v28] 31]++(c21++(c25++(c29++([]))))))) (fun Q150 hN151 hR152 hE153=>⟨fun hc154=>?_,fun hc154=>?_⟩) ?_
  ·rw [iteT hc154] at hX148
   simp only [qt,ql,B0,reduceIte,reduceEqDiff]
   have e155:=qf hX148
   subst e155
   exact hN151 _ _ ⟨f77,f78,f79,f80,f81,rfl,(Sep.m4 (Sep.m4 (Sep.m4 (Sep.m4 (Sep.m4 hS76)))))⟩
  ·rw [iteF hc154] at hX148
   simp only [qup,qd,qc,f82,qm,qb,yi,qe,qa,qvs,qr,B0,reduceIte,reduceEqDiff]
   refine qq (t:=(decide (v_1.Term=3))) (fun hc156=>?_) (fun hc156=>?_)
   ·rw [iteT hc156] at hX148
    simp only [qt,ql,B0,reduceIte,reduceEqDiff]
    have e157:=qf hX148
    subst e157
    exact hN151 _ _ ⟨f77,f78,f79,f80,f81,rfl,(Sep.m4 (Sep.m4 (Sep.m4 (Sep.m4 (Sep.m4 hS76)))))⟩
   rw [iteF hc156] at hX148
   simp only [qc,f82,qm,qb,yi,qe,qa,ql,B0,reduceIte,reduceEqDiff]
   have e158:=qf hX148
   subst e158
   exact hN151 _ _ ⟨f77,f78,f79,f80,f81,rfl,(Sep.m4 (Sep.m4 (Sep.m4 (Sep.m4 (Sep.m4 hS76)))))⟩
  rintro fr159 h160 ⟨f162,f163,f164,f165,f166,f167,hS161⟩
  unfold kn at hk149
  simp only [qw6,f167,qr,B0,reduceIte,reduceEqDiff]
  refine qq (t:=s146) (fun hc168=>?_) (fun hc168=>?_)
  ·rw [iteT hc168] at hk149
   simp only [qrm,qd,qc,f163,qn,qb,Nat.reduceAdd,Nat.zero_add,Nat.add_zero,qu,qj,B0,reduceIte,reduceEqDiff]
   refine qh (v := .int .i64 v_1.Leader) rfl ?_
   simp only [f162,qn,qb,Nat.reduceAdd,Nat.zero_add,Nat.add_zero,qu,qj,B0,reduceIte,reduceEqDiff]
   refine qh (v:=lst Letter.cells v_0.Post) rfl ?_
   simp only [zj,qb,zr,qm,qcz,zb,B0,reduceIte,reduceEqDiff]
   refine jg rfl (qk za (qk za (qk za zd))) (y7 (fun b hb=>decide_eq_true hb) v_1.Leader 0 (IntKind.wrap .i64
     ((List.length v_0.Post:Int) - 1)) _ rfl) ?_
   simp only [js,qb,kt,qa,qtt,qr,B0,reduceIte,reduceEqDiff]
   refine qq (t:=(!(zl v_1.Leader 0 (IntKind.wrap .i64 ((List.length v_0.Post:Int) - 1))))) (fun hc169=>?_) (fun hc169=>?_)
   ·rw [iteT hc169] at hk149
    simp only [qd,qc,run_build,evp,B0,reduceIte,reduceEqDiff]
    refine qh (v := .agg [.nil,.nil,.nil]) rfl ?_
    simp only [f164,ze,B0,reduceIte,reduceEqDiff]
    refine zc (us:=[.nil,.nil,.nil]) rfl (cs':=[.nil,.nil,.nil]) hS161 hW rfl rfl (Nat.le_of_ble_eq_true rfl) rfl (fun h170 hS171=>?_)
    simp only [qe,qa,qs,B0,reduceIte,reduceEqDiff]
    have e172:=qf hk149
    subst e172
    have hk58':=hk58
    dsimp only [jnO] at hk58'
    apply hR61
    have he:=qf hk58'
    subst he
    refine j7 (qk (kp (bb:=b9) (oo:=0) (v := .agg [.nil,.nil,
      .nil]) (f164) ((zw (Sep.bk _ _ _ hS171)).trans rfl)) (qk (yu (v := .bool false) (rfl)) zd)) ?_
    exact ⟨.nil,[],.nil,[],.nil,[],by first | trivial | rfl,SlN.nil,SlF.nil,SlF.nil,
      ((Sep.dc ((Sep.dc ((Sep.dc ((Sep.dc ((Sep.dc (hS171)))))))))) : Sep _ (geL h.length) ([]))⟩
   rw [iteF hc169] at hk149
   simp only [qt,qss,qd,qc,f162,qn,qb,Nat.reduceAdd,Nat.zero_add,Nat.add_zero,qu,qj,B0,reduceIte,reduceEqDiff]
   refine qh (v:=lst Letter.cells v_0.Post) rfl ?_
   simp only [f163,qn,qb,Nat.reduceAdd,Nat.zero_add,Nat.add_zero,qu,qj,B0,reduceIte,reduceEqDiff]
   refine qh (v := .int .i64 v_1.Leader) rfl ?_
   obtain ⟨x173,hx174,hF175⟩:=qi hk149
   simp only [zt,B0,reduceIte,reduceEqDiff]
   refine qh (v := .ref (Letter.cells x173) 0) (je hx174 rfl) ?_
   simp only [qj,B0,reduceIte,reduceEqDiff]
   refine qh (v := .agg [.int .i64 x173.To,.int .i64 x173.From,.int .i64 x173.Term,.bool x173.Asks,.int .i64 x173.Last,.int .i64 x173.Long,.bool x173.Grant]) rfl ?_
   simp only [jv,B0,reduceIte,reduceEqDiff]
   refine jb hS161 (fun b176 h177 hS178=>?_)
   simp only [ze,B0,reduceIte,reduceEqDiff]
   refine zc (us:=[.int .i64 x173.To,.int .i64 x173.From,.int .i64 x173.Term,.bool x173.Asks,.int .i64 x173.Last,.int .i64 x173.Long,
     .bool x173.Grant]) rfl (cs':=[.int .i64 x173.To,.int .i64 x173.From,.int .i64 x173.Term,.bool x173.Asks,.int .i64 x173.Last,.int .i64 x173.Long,
     .bool x173.Grant]) hS178 hW rfl rfl (Nat.le_of_ble_eq_true rfl) rfl (fun h180 hS181=>?_)
   simp only [qa,B0,reduceIte,reduceEqDiff]
   refine jd hS181 hW (by simp only [B0,reduceIte,reduceEqDiff]) (fun h182 hS183=>?_)
   simp only [jc,qru,qd,qc,f163,qn,qb,Nat.reduceAdd,Nat.zero_add,Nat.add_zero,qu,qj,B0,reduceIte,reduceEqDiff]
   refine qh (v := .int .i64 v_1.Term) rfl ?_
   simp only [qm,qb,yi,qa,qu4,qr,B0,reduceIte,reduceEqDiff]
   refine qq (t:=(decide (v_1.Term=4))) (fun hc184=>?_) (fun hc184=>?_)
   ·rw [iteT hc184] at hF175
    simp only [qrj,qd,qc,f162,qn,qb,Nat.reduceAdd,Nat.zero_add,Nat.add_zero,qu,qj,B0,reduceIte,reduceEqDiff]
    refine qh (v:=lst Letter.cells v_0.Post) rfl ?_
    simp only [zj,qb,zr,qm,kr,qe,qa,qsg,qd,qc,f165,qn,Nat.reduceAdd,Nat.zero_add,Nat.add_zero,qx,
      qj,B0,reduceIte,reduceEqDiff]
    refine qh (v:=v24) ((z9 (Sep.bk _ _ _ (Sep.m1 hS183))).trans rfl) ?_
    simp only [qj,B0,reduceIte,reduceEqDiff]
    refine qh (v := .agg [.int .i64 x173.To,.int .i64 x173.From,.int .i64 x173.Term,.bool x173.Asks,.int .i64 x173.Last,.int .i64 x173.Long,.bool x173.Grant]) rfl ?_
    simp only [yg,evp,B0,reduceIte,reduceEqDiff]
    refine k6 (n:=7) (f:=Letter.cells) [x173] hS183 rfl rfl (fun v185 c186 h187 hv188 hS189=>?_)
    simp only [xz,B0,reduceIte,reduceEqDiff]
    obtain ⟨l191,hx192,hF193⟩:=qi hF175
    refine we (f:=Letter.cells) hv26 (Sep.m4 hS189) hW (fun _=>rfl) (fun _=>rfl) (SlF.first hv188 hS189 (fun _=>rfl)) hx192
      (fun v194 c195 h196 hv197 hS198=>?_)
    simp only [f165,qn,qb,Nat.reduceAdd,Nat.zero_add,Nat.add_zero,qx,ze,B0,reduceIte,reduceEqDiff]
    refine zc (us:=[v194]) (jl (SlF.one hv197)) (cs':=[v20,v194,
      v28]) (Sep.m3 hS198) hW rfl (qo (SlF.one hv197) zn) (Nat.le_of_ble_eq_true rfl) rfl (fun h200 hS201=>?_)
    simp only [qa,kg,ka,qhz,reduceIte,ql,B0,reduceEqDiff]
    have e202:=qf hF193
    exact hN60 _ _ ⟨_,e202.symm,v194,c195,v28,c29,c21,f164,f165,rfl,hv197,hv30,hv22,(Sep.m4 (Sep.m3 (Sep.m4 (Sep.m2 (Sep.m4 (Sep.dc (Sep.m2 hS201)))))))⟩
   rw [iteF hc184] at hF175
   simp only [qt,qxh,qd,qc,qe,qa,qvf,f165,qn,qb,Nat.reduceAdd,Nat.zero_add,Nat.add_zero,qx,qj,B0,
     reduceIte,reduceEqDiff]
   refine qh (v:=v24) ((z9 (Sep.bk _ _ _ (Sep.m1 hS183))).trans rfl) ?_
   simp only [f163,qn,qb,Nat.reduceAdd,Nat.zero_add,Nat.add_zero,qu,qj,B0,reduceIte,reduceEqDiff]
   refine qh (v := .int .i64 v_1.Leader) rfl ?_
   simp only [f163,qn,qb,Nat.reduceAdd,Nat.zero_add,Nat.add_zero,qu,qj,B0,reduceIte,reduceEqDiff]
   refine qh (v := .int .i64 v_1.Leader) rfl ?_
   obtain ⟨v203,hx204,hF205⟩:=qi hF175
   simp only [qm,qb,j8,zb,B0,reduceIte,reduceEqDiff]
   refine x3 rfl (qhi hW v24 c25 v17.Post hv26 v_1.Leader (IntKind.wrap .i64 (v_1.Leader+1)) v203 hx204 (Sep.m3 hS183)) ?_
   rintro v206 h210 ⟨_,c207,rfl,hv208,hS211⟩
   simp only [f165,qn,qb,Nat.reduceAdd,Nat.zero_add,Nat.add_zero,qx,ze,B0,reduceIte,reduceEqDiff]
   refine zc (us:=[v206]) (jl (SlF.one hv208)) (cs':=[v20,v206,
     v28]) (Sep.m2 hS211) hW rfl (qo (SlF.one hv208) zn) (Nat.le_of_ble_eq_true rfl) rfl (fun h212 hS213=>?_)
   simp only [qa,qs0,qd,qc,f163,qn,qb,Nat.reduceAdd,Nat.zero_add,Nat.add_zero,qu,qj,B0,reduceIte,reduceEqDiff]
   refine qh (v := .int .i64 v_1.Term) rfl ?_
   simp only [qm,qb,yi,qa,qv4,qr,B0,reduceIte,reduceEqDiff]
   refine qq (t:=(decide (v_1.Term=2))) (fun hc214=>?_) (fun hc214=>?_)
   ·rw [iteT hc214] at hF205
    simp only [qc,qj,B0,reduceIte,reduceEqDiff]
    refine qh (v := .agg [.int .i64 x173.To,.int .i64 x173.From,.int .i64 x173.Term,.bool x173.Asks,.int .i64 x173.Last,.int .i64 x173.Long,.bool x173.Grant]) rfl ?_
    obtain ⟨v215,hx216,hF217⟩:=qi hF205
    simp only [f165,zb,B0,reduceIte,reduceEqDiff]
    refine x3 rfl (qig hW k b37 (Election.mk v17.Servers v203 v17.Led) v20 c21 hv22 v206 c207 hv208 v28 c29 hv30 x173 v215 hx216 (Sep.m3 (Sep.m4 (Sep.m2
      (Sep.m4 hS213))))) ?_
    rintro _ h228 ⟨c218,v220,c221,v224,c225,rfl,hv219,hv222,hv226,hS229⟩
    simp only [qa,kh,ql,B0,reduceIte,reduceEqDiff]
    have e230:=qf hF217
    exact hN60 _ _ ⟨_,e230.symm,v220,c221,v224,c225,c218,f164,f165,rfl,hv222,hv226,hv219,(Sep.m4 (Sep.m3 (Sep.m3 (Sep.m3 (Sep.m3 hS229)))))⟩
   rw [iteF hc214] at hF205
   simp only [qt,kh,ql,B0,reduceIte,reduceEqDiff]
   have e231:=qf hF205
   exact hN60 _ _ ⟨_,e231.symm,v206,c207,v28,c29,c21,f164,f165,rfl,hv208,hv30,hv22,(Sep.m4 (Sep.m3 (Sep.m4 (Sep.m2 (Sep.m4 hS213)))))⟩
  rw [iteF hc168] at hk149
  simp only [qt,kh,ql,B0,reduceIte,reduceEqDiff]
  have e232:=qf hk149
  exact hN60 _ _ ⟨_,e232.symm,v24,c25,v28,c29,c21,f164,f165,f166,hv26,hv30,hv22,(Sep.m4 (Sep.m4 (Sep.m4 (Sep.m4 (Sep.m4 hS161)))))⟩
 rintro fr235 h236 ⟨⟨s43,s44,s53⟩,rfl,v46,c47,v50,c51,c54,f238,f239,f240,hv48,hv52,hv55,hS237⟩
 dsimp only [jnO] at hk58
 dsimp only at *
 unfold yv at hk58
 simp only [qse,qd,qc,f240,qe,js,qb,kt,B0,reduceIte,reduceEqDiff]
 obtain ⟨v244,hx245,hF246⟩:=qi hk58
 refine jh 4 (fun fr' h'=>Sep h' (geL h.length) ([Blk1 b9 [.nil,.nil,.nil] 31]++([Blk1 b37 [v20,v46,
   v50] 31]++(c54++(c47++(c51++([]))))))∧fr' 99 = .bool v244∧fr' 4 = .ptr b9 0∧fr' 6 = .ptr b37 0) (fun Q241 hN242=>?_) ?_
 ·simp only [List.take_succ_cons,List.take_zero]
  simp only [qg (g:=95),B0,reduceIte,reduceEqDiff]
  refine zf (t:=(!s43)) (fun hg243=>?_) (fun hg243=>?_)
  ·rw [iteT hg243] at hx245
   simp only [hg243,qg (g:=95),zz,qz,qb,zp,qa,ql,B0,reduceIte,reduceEqDiff]
   have e247:=qf hx245
   exact hN242 _ _ ⟨(Sep.m4 (Sep.m4 (Sep.m4 (Sep.m4 (Sep.m4 hS237))))),by rw [←e247]; simp only [B0,reduceIte,reduceEqDiff],f238,f239⟩
  ·rw [iteF hg243] at hx245
   simp only [hg243,qg (g:=95),qv,f239,qj,B0,reduceIte,reduceEqDiff]
   refine qh (v := .agg [v20,v46,v50]) ((zw (Sep.bk _ _ _ (Sep.m1 hS237))).trans rfl) ?_
   obtain ⟨v248,hx249,hF250⟩:=qi hx245
   simp only [hg243,qg (g:=95),qv,zb,B0,reduceIte,reduceEqDiff]
   refine jg rfl (qk (kq (qk (SlN.snap hv55 _ (Sep.m2 hS237) rfl Server.RO) (qk (SlF.snap hv48 (Sep.m3 hS237) rfl (fun _=>rfl) (fun _=>rfl)) (qk
     (SlF.snap hv52 (Sep.m4 hS237) rfl (fun _=>rfl) (fun _=>rfl)) zd)))) zd) (qjr (fun b hb=>decide_eq_true hb)
     (Election.mk s53 s44.Post s44.Led) v248 hx249) ?_
   simp only [hg243,qg (g:=95),qv,js,qb,kt,qz,zo,qa,ql,B0,reduceIte,reduceEqDiff]
   have e251:=qf hF250
   exact hN242 _ _ ⟨(Sep.m4 (Sep.m4 (Sep.m4 (Sep.m4 (Sep.m4 hS237))))),by rw [←e251]; simp only [B0,reduceIte,reduceEqDiff],f238,f239⟩
 rintro fr252 h256 ⟨hS257,f253,f254,f255⟩
 simp only [List.drop_succ_cons,List.drop_zero]
 simp only [qa,qvg,f253,qr,B0,reduceIte,reduceEqDiff]
 refine qq (t:=v244) (fun hc258=>?_) (fun hc258=>?_)
 ·rw [iteT hc258] at hF246
  simp only [qd,qc,run_build,evp,B0,reduceIte,reduceEqDiff]
  refine qh (v := .agg [.nil,.nil,.nil]) rfl ?_
  simp only [f254,ze,B0,reduceIte,reduceEqDiff]
  refine zc (us:=[.nil,.nil,.nil]) rfl (cs':=[.nil,.nil,.nil]) hS257 hW rfl rfl (Nat.le_of_ble_eq_true rfl) rfl (fun h259 hS260=>?_)
  simp only [qe,qa,qs,B0,reduceIte,reduceEqDiff]
  have he:=qf hF246
  subst he
  refine j7 (qk (kp (bb:=b9) (oo:=0) (v := .agg [.nil,.nil,
    .nil]) (f254) ((zw (Sep.bk _ _ _ hS260)).trans rfl)) (qk (yu (v := .bool false) (rfl)) zd)) ?_
  exact ⟨.nil,[],.nil,[],.nil,[],by first | trivial | rfl,SlN.nil,SlF.nil,SlF.nil,
    ((Sep.dc ((Sep.dc ((Sep.dc ((Sep.dc ((Sep.dc (hS260)))))))))) : Sep _ (geL h.length) ([]))⟩
 rw [iteF hc258] at hF246
 simp only [qt,qd,qc,f255,qj,B0,reduceIte,reduceEqDiff]
 refine qh (v := .agg [v20,v46,v50]) ((zw (Sep.bk _ _ _ (Sep.m1 hS257))).trans rfl) ?_
 simp only [f254,ze,B0,reduceIte,reduceEqDiff]
 refine zc (us:=[v20,v46,v50]) rfl (cs':=[v20,v46,
   v50]) hS257 hW rfl (qo (SlN.one hv55) (qo (SlF.one hv48) (qo (SlF.one hv52) zn))) (Nat.le_of_ble_eq_true rfl) rfl (fun h261 hS262=>?_)
 simp only [qe,qa,qs,B0,reduceIte,reduceEqDiff]
 have he:=qf hF246
 subst he
 refine j7 (qk (kp (bb:=b9) (oo:=0) (v := .agg [v20,v46,
   v50]) (f254) ((zw (Sep.bk _ _ _ hS262)).trans rfl)) (qk (yu (v := .bool true) (rfl)) zd)) ?_
 exact ⟨v20,c54,v46,c47,v50,c51,by first | trivial | rfl,hv55,hv48,hv52,(Sep.m2 (Sep.m2 (Sep.m2 (Sep.dc ((Sep.dc (hS262)))))))⟩
theorem qey {W:Nat→Bool}{h:Heap} (hW:∀ b,
  (geL h.length) b→W b=true) (k:Nat) (logs_0:List (List Int)) (l_1:List ElectStep) (r:Election × (List Bool) × Bool)
  (hF:ku k logs_0 l_1=some r) : Ret E W 8 [lst (cL cI) logs_0,lst ElectStep.cells l_1] h (fun v h'=>∃ rv0_0 rc0_0 rv0_1 rc0_1 rv0_2 rc0_2 rv1 rc1,
  v = .tup [.agg [rv0_0,rv0_1,rv0_2],rv1,
  .bool r.2.2]∧SlN Server.R 6 46 rv0_0 r.1.Servers rc0_0∧SlF Letter.cells 7 93 rv0_1 r.1.Post rc0_1∧SlF Vote.cells 2 39 rv0_2 r.1.Led rc0_2∧SlF cB 1 4 rv1 r.2.1 rc1∧Sep h'
  (geL h.length) (rc0_0++(rc0_1++(rc0_2++(rc1++([])))))):=by
 refine Ret.of (fn:=x8) rfl (Run.of ?_)
 unfold ku at hF
 have zf0:qy [lst (cL cI) logs_0,lst ElectStep.cells l_1] 0=lst (cL cI) logs_0:=rfl
 have zf1:qy [lst (cL cI) logs_0,lst ElectStep.cells l_1] 1=lst ElectStep.cells l_1:=rfl
 generalize qy [lst (cL cI) logs_0,lst ElectStep.cells l_1]=fr0 at zf0 zf1 ⊢
 have hS:Sep h (geL h.length) []:=Sep.nil h
 simp only [x8,qd,qc,jv,B0,reduceIte,reduceEqDiff]
 refine jb hS (fun b1 h2 hS3=>?_)
 obtain ⟨v5,hx6,hF7⟩:=qi hF
 simp only [qe,qa,q5e,qd,qc,zf0,zb,B0,reduceIte,reduceEqDiff]
 refine qba rfl hS3 (qk zx zd) (qjd (fun b hb=>decide_eq_true hb) logs_0 v5 hx6) ?_
 rintro _ h20 ⟨v8,c9,v12,c13,v16,c17,rfl,hv10,hv14,hv18,hS21⟩
 refine ⟨_,qh1 (qo (qgg (qo (SlN.free1 hv10) (qo (SlF.free1 hv14) (qo (SlF.free1 hv18) zn)))) (qo rfl zn)),hS21,
   (j0 (SlN.pf hv10 Server.RO) (j0 (SlF.pf hv14 (fun _=>rfl)) (j0 (SlF.pf hv18 (fun _=>rfl)) xv))),fun h22 hS23=>?_⟩
 have hS24:Sep h22 (geL h.length) (c9++(c13++(c17++([Blk1 b1 [.nil,.nil,.nil] 31]++([]))))):=by simpa only [List.append_assoc,List.nil_append] using hS23
 simp only [qe,qfa,qb,qep,qen,jv,B0,reduceIte,reduceEqDiff]
 refine jb hS24 (fun b25 h26 hS27=>?_)
 simp only [ze,B0,reduceIte,reduceEqDiff]
 refine zc (us:=[v8,v12,v16]) rfl (cs':=[v8,v12,
   v16]) hS27 hW rfl (qo (SlN.one hv10) (qo (SlF.one hv14) (qo (SlF.one hv18) zn))) (Nat.le_of_ble_eq_true rfl) rfl (fun h29 hS30=>?_)
 simp only [qe,qa,q26,qd,qc,js,qb,kt,B0,reduceIte,reduceEqDiff]
 refine jh 4 (fun fr' h'=>Sep h' (geL h.length) ([Blk1 b1 [.nil,.nil,.nil] 31]++([Blk1 b25 [v8,v12,
   v16] 31]++(c9++(c13++(c17++([]))))))∧fr' 25 = .bool ((!v5.2)||(decide ((80:Int) <
   (List.length l_1:Int))))∧fr' 1=lst ElectStep.cells l_1∧fr' 4 = .ptr b1 0∧fr' 7 = .ptr b25 0) (fun Q31 hN32=>?_) ?_
 ·simp only [List.take_succ_cons,List.take_zero]
  simp only [qg (g:=21),B0,reduceIte,reduceEqDiff]
  refine zf (t:=(!v5.2)) (fun hg33=>?_) (fun hg33=>?_)
  ·simp only [hg33,qg (g:=21),zz,qz,qb,zp,qa,ql,B0,reduceIte,reduceEqDiff]
   exact hN32 _ _ ⟨(Sep.m4 (Sep.m3 (Sep.m3 (Sep.m3 (Sep.m3 hS30))))),by rw [orT hg33]; simp only [B0,reduceIte,reduceEqDiff],zf1,rfl,rfl⟩
  ·simp only [hg33,qg (g:=21),qv,zf1,qe,zj,qb,zr,qm,qby,qz,zo,qa,ql,B0,reduceIte,
    reduceEqDiff]
   exact hN32 _ _ ⟨(Sep.m4 (Sep.m3 (Sep.m3 (Sep.m3 (Sep.m3 hS30))))),by rw [orF hg33]; simp only [B0,reduceIte,reduceEqDiff],zf1,rfl,rfl⟩
 rintro fr34 h39 ⟨hS40,f35,f36,f37,f38⟩
 simp only [List.drop_succ_cons,List.drop_zero]
 simp only [qa,q9y,f35,qr,B0,reduceIte,reduceEqDiff]
 refine qq (t:=((!v5.2)||(decide ((80:Int)<(List.length l_1:Int))))) (fun hc41=>?_) (fun hc41=>?_)
 ·rw [iteT hc41] at hF7
  simp only [q94,qd,qc,run_build,evp,B0,reduceIte,reduceEqDiff]
  refine qh (v := .agg [.nil,.nil,.nil]) rfl ?_
  simp only [f37,ze,B0,reduceIte,reduceEqDiff]
  refine zc (us:=[.nil,.nil,.nil]) rfl (cs':=[.nil,.nil,.nil]) hS40 hW rfl rfl (Nat.le_of_ble_eq_true rfl) rfl (fun h42 hS43=>?_)
  simp only [qe,qa,qs,B0,reduceIte,reduceEqDiff]
  have he:=qf hF7
  subst he
  refine j7 (qk (kp (bb:=b1) (oo:=0) (v := .agg [.nil,.nil,
    .nil]) (f37) ((zw (Sep.bk _ _ _ hS43)).trans rfl)) (qk (yu (v := .nil) (rfl)) (qk (yu (v := .bool false) (rfl)) zd))) ?_
  exact ⟨.nil,[],.nil,[],.nil,[],.nil,[],by first | trivial | rfl,SlN.nil,SlF.nil,SlF.nil,SlF.nil,
    ((Sep.dc ((Sep.dc ((Sep.dc ((Sep.dc ((Sep.dc (hS43)))))))))) : Sep _ (geL h.length) ([]))⟩
 rw [iteF hc41] at hF7
 simp only [qt,q17,qd,qc,yg,evp,B0,reduceIte,reduceEqDiff]
 refine k6 (n:=1) (f:=cB) ([] : List Bool) hS40 rfl rfl (fun v44 c45 h46 hv47 hS48=>?_)
 simp only [qe,qa,q1k,qd,qc,f36,zj,qb,zr,B0,reduceIte,reduceEqDiff]
 obtain ⟨oc88,hX90,hk91⟩:=jm hF7
 simp only [q9g]
 refine uh (σ:=(List Bool) × Election) l_1 (fun i86 x87 s198=>w6 k i86 x87 s198.1 s198.2) (fun s fr' h'=>∃ v70 c71 v75 c76 v79 c80 v83 c84,
   fr' 4 = .ptr b1 0∧fr' 7 = .ptr b25 0∧fr' 9=v70∧fr' 28=lst ElectStep.cells l_1∧SlF cB 1 4 v70 s.1 c71∧SlN Server.R 6 46 v75 s.2.Servers c76∧SlF Letter.cells 7 93 v79 s.2.Post c80∧SlF Vote.cells 2 39 v83 s.2.Led c84∧Sep h'
   (geL h.length) ([Blk1 b1 [.nil,.nil,.nil] 31]++([Blk1 b25 [v75,v79,v83] 31]++(c71++(c76++(c80++(c84++([])))))))) hX90 ⟨v44,c45,v8,c9,v12,c13,v16,c17,
   f37,f38,rfl,rfl,hv47,hv10,hv14,hv18,(Sep.m5 (Sep.m5 (Sep.m3 (Sep.m5 (Sep.m5 (Sep.m5 hS48))))))⟩ (by simp only [B0,reduceIte,reduceEqDiff]) (by simp only [B0,
   reduceIte,reduceEqDiff]) (fun _ _ _ h=>h) rfl rfl (fun _ _ _ _ h=>h) (fun _ _ _ _ h=>h) (fun _ _ _ _ h=>h) (by decide) ?_ ?_
 ·rintro i86 x87 ⟨s68,s73⟩ fr100 h101 hx107 ⟨v70,c71,v75,c76,v79,c80,v83,c84,f103,f104,f105,f106,hv72,hv77,hv81,hv85,
   hS102⟩ f108 f109 oc89 hF92 hr93 Q94 hN95 hB99 hK96 hR97 hE98
  dsimp only at *
  unfold w6 at hF92
  simp only [zaz,qd,qc,f106,f108,zt,B0,reduceIte,reduceEqDiff]
  refine qh (v := .ref (ElectStep.cells x87) 0) (ug hx107 rfl) ?_
  simp only [qj,B0,reduceIte,reduceEqDiff]
  refine qh (v := .agg [.int .i64 x87.Term,.int .i64 x87.Leader]) rfl ?_
  simp only [jv,B0,reduceIte,reduceEqDiff]
  refine jb hS102 (fun b110 h111 hS112=>?_)
  simp only [ze,B0,reduceIte,reduceEqDiff]
  refine zc (us:=[.int .i64 x87.Term,.int .i64 x87.Leader]) rfl (cs':=[.int .i64 x87.Term,
    .int .i64 x87.Leader]) hS112 hW rfl rfl (Nat.le_of_ble_eq_true rfl) rfl (fun h114 hS115=>?_)
  simp only [qa,B0,reduceIte,reduceEqDiff]
  refine jd hS115 hW (by simp only [B0,reduceIte,reduceEqDiff]) (fun h116 hS117=>?_)
  simp only [jc,q9z,qd,qc,f104,qj,B0,reduceIte,reduceEqDiff]
  refine qh (v := .agg [v75,v79,v83]) ((zw (Sep.bk _ _ _ (Sep.m1 hS117))).trans rfl) ?_
  simp only [qj,B0,reduceIte,reduceEqDiff]
  refine qh (v := .agg [.int .i64 x87.Term,.int .i64 x87.Leader]) rfl ?_
  obtain ⟨v118,hx119,hF120⟩:=qi hF92
  simp only [zb,B0,reduceIte,reduceEqDiff]
  refine qba rfl hS117 (qk (kq (qk (SlN.snap hv77 _ (Sep.m3 hS117) rfl Server.RO) (qk (SlF.snap hv81 (Sep.m4 hS117) rfl (fun _=>rfl) (fun _=>rfl)) (qk
    (SlF.snap hv85 (Sep.m5 hS117) rfl (fun _=>rfl) (fun _=>rfl)) zd)))) (qk (kq (qk za (qk za zd))) zd)) (qh7
    (fun b hb=>decide_eq_true hb) k s73 x87 v118 hx119) ?_
  rintro _ h133 ⟨v121,c122,v125,c126,v129,c130,rfl,hv123,hv127,hv131,hS134⟩
  refine ⟨_,qh1 (qo (qgg (qo (SlN.free1 hv123) (qo (SlF.free1 hv127) (qo (SlF.free1 hv131) zn)))) (qo rfl zn)),hS134,
    (j0 (SlN.pf hv123 Server.RO) (j0 (SlF.pf hv127 (fun _=>rfl)) (j0 (SlF.pf hv131 (fun _=>rfl)) xv))),fun h135 hS136=>?_⟩
  have hS137:Sep h135 (geL h.length) (c122++(c126++(c130++([Blk1 b1 [.nil,.nil,.nil] 31]++([Blk1 b25 [v75,v79,
    v83] 31]++(c71++(c76++(c80++(c84++([])))))))))):=by simpa only [List.append_assoc,List.nil_append] using hS136
  simp only [qe,qfa,qb,qep,qen,jv,B0,reduceIte,reduceEqDiff]
  refine jb hS137 (fun b138 h139 hS140=>?_)
  simp only [ze,B0,reduceIte,reduceEqDiff]
  refine zc (us:=[v121,v125,v129]) rfl (cs':=[v121,v125,
    v129]) hS140 hW rfl (qo (SlN.one hv123) (qo (SlF.one hv127) (qo (SlF.one hv131) zn))) (Nat.le_of_ble_eq_true rfl) rfl (fun h142 hS143=>?_)
  simp only [qe,qa,B0,reduceIte,reduceEqDiff]
  refine jd hS143 hW (by simp only [B0,reduceIte,reduceEqDiff]) (fun h144 hS145=>?_)
  simp only [jc,q9j,qd,qc,qe,qa,q92,qr,B0,reduceIte,reduceEqDiff]
  obtain ⟨s146,hX160,hk161⟩:=qi hF120
  refine qdu (t:=v118.2) (fun fr' h'=>∃ v148 c149 v152 c153 v156 c157,
    fr' 4 = .ptr b1 0∧fr' 7 = .ptr b25 0∧fr' 9=v70∧fr' 13 = .bool v118.2∧fr' 28=lst ElectStep.cells l_1∧fr' 29 = .int .i64
    (List.length l_1:Int)∧fr' 30 = .int .i64
    (i86:Int)∧SlN Server.R 6 46 v148 s146.Servers c149∧SlF Letter.cells 7 93 v152 s146.Post c153∧SlF Vote.cells 2 39 v156 s146.Led c157∧Sep h' (geL h.length)
    ([Blk1 b1 [.nil,.nil,.nil] 31]++([Blk1 b25 [v148,v152,v156] 31]++(c71++(c149++(c153++(c157++([])))))))) (fun Q162 hN163 hR164 hE165=>⟨fun hc166=>?_,
    fun hc166=>?_⟩) ?_
  ·rw [iteT hc166] at hX160
   simp only [qc,qj,B0,reduceIte,reduceEqDiff]
   refine qh (v := .agg [v121,v125,v129]) rfl ?_
   simp only [f104,ze,B0,reduceIte,reduceEqDiff]
   refine zc (us:=[v121,v125,v129]) rfl (cs':=[v121,v125,
     v129]) (Sep.m4 hS145) hW rfl (qo (SlN.one hv123) (qo (SlF.one hv127) (qo (SlF.one hv131) zn))) (Nat.le_of_ble_eq_true rfl) rfl (fun h167 hS168=>?_)
   simp only [qa,ql,B0,reduceIte,reduceEqDiff]
   have e169:=qf hX160
   subst e169
   exact hN163 _ _ ⟨v121,c122,v125,c126,v129,c130,f103,f104,f105,rfl,f106,f109,f108,hv123,hv127,hv131,
     (Sep.m5 (Sep.m4 (Sep.m5 (Sep.m3 (Sep.m3 (Sep.m3 (Sep.dc (Sep.m6 (Sep.dc (Sep.m6 (Sep.dc (Sep.m6 hS168))))))))))))⟩
  ·rw [iteF hc166] at hX160
   simp only [qt,ql,B0,reduceIte,reduceEqDiff]
   have e170:=qf hX160
   subst e170
   exact hN163 _ _ ⟨v75,c76,v79,c80,v83,c84,f103,f104,f105,rfl,f106,f109,f108,hv77,hv81,hv85,
     (Sep.m5 (Sep.m5 (Sep.m5 (Sep.m5 (Sep.m5 (Sep.m5 (Sep.dc ((Sep.dc ((Sep.dc (hS145))))))))))))⟩
  rintro fr171 h172 ⟨v148,c149,v152,c153,v156,c157,f174,f175,f176,f177,f178,f179,f180,hv150,hv154,hv158,hS173⟩
  unfold u2 at hk161
  simp only [zar,qc,f176,qe,f177,yg,evp,B0,reduceIte,reduceEqDiff]
  refine k6 (n:=1) (f:=cB) [v118.2] hS173 rfl rfl (fun v181 c182 h183 hv184 hS185=>?_)
  simp only [xz,B0,reduceIte,reduceEqDiff]
  obtain ⟨l187,hx188,hF189⟩:=qi hk161
  refine we (f:=cB) hv72 (Sep.m3 hS185) hW (fun _=>rfl) (fun _=>rfl) (SlF.first hv184 hS185 (fun _=>rfl)) hx188 (fun v190 c191 h192 hv193 hS194=>?_)
  simp only [qe,qa,ql,B0,reduceIte,reduceEqDiff]
  have e196:=qf hF189
  exact hN95 _ _ _ e196.symm ⟨v190,c191,v148,c149,v152,c153,v156,c157,f174,f175,rfl,f178,hv193,hv150,hv154,hv158,
    (Sep.m5 (Sep.m5 (Sep.m3 (Sep.m5 (Sep.m5 (Sep.m5 (Sep.dc (Sep.m1 hS194))))))))⟩ (f180) (f179)
 rintro ⟨s199,s204⟩ fr217 h218 rfl ⟨v201,c202,v206,c207,v210,c211,v214,c215,f220,f221,f222,f223,hv203,hv208,hv212,hv216,hS219⟩
 dsimp only [jnO] at hk91
 dsimp only at *
 unfold qei at hk91
 simp only [q0t,qd,qc,f221,qj,B0,reduceIte,reduceEqDiff]
 refine qh (v := .agg [v206,v210,v214]) ((zw (Sep.bk _ _ _ (Sep.m1 hS219))).trans rfl) ?_
 simp only [f222,qe,f220,ze,B0,reduceIte,reduceEqDiff]
 refine zc (us:=[v206,v210,v214]) rfl (cs':=[v206,v210,
   v214]) hS219 hW rfl (qo (SlN.one hv208) (qo (SlF.one hv212) (qo (SlF.one hv216) zn))) (Nat.le_of_ble_eq_true rfl) rfl (fun h224 hS225=>?_)
 simp only [qe,qa,qs,B0,reduceIte,reduceEqDiff]
 have he:=qf hk91
 subst he
 refine j7 (qk (kp (bb:=b1) (oo:=0) (v := .agg [v206,v210,
   v214]) (f220) ((zw (Sep.bk _ _ _ hS225)).trans rfl)) (qk (yu (v:=v201) (rfl)) (qk (yu (v := .bool true) (rfl)) zd))) ?_
 exact ⟨v206,c207,v210,c211,v214,c215,v201,c202,by first | trivial | rfl,hv208,hv212,hv216,hv203,(Sep.m3 (Sep.m3 (Sep.m3 (Sep.dc ((Sep.dc (hS225)))))))⟩
theorem qhm {W:Nat→Bool}{h:Heap} (hW:∀ b,
  (geL h.length) b→W b=true) (n_0:Int) (lo_1:Int) (hi_2:Int) (r:Bool) (hF:some (kw n_0 lo_1 hi_2)=some r) : Ret E W 62 [.int .i64 n_0,.int .i64 lo_1,
  .int .i64 hi_2] h (fun v h'=>cut h.length h' E.sz false 9 v=some (.bool r)):=by
 refine Ret.of (fn:=x62) rfl (Run.of ?_)
 unfold kw at hF
 have zf0:qy [.int .i64 n_0,.int .i64 lo_1,.int .i64 hi_2] 0 = .int .i64 n_0:=rfl
 have zf1:qy [.int .i64 n_0,.int .i64 lo_1,.int .i64 hi_2] 1 = .int .i64 lo_1:=rfl
 have zf2:qy [.int .i64 n_0,.int .i64 lo_1,.int .i64 hi_2] 2 = .int .i64 hi_2:=rfl
 generalize qy [.int .i64 n_0,.int .i64 lo_1,.int .i64 hi_2]=fr0 at zf0 zf1 zf2 ⊢
 have hS:Sep h (geL h.length) []:=Sep.nil h
 simp only [x62,qd,qc,qe,qa,q7c,zf0,zf1,qm,qb,qi6,B0,reduceIte,reduceEqDiff]
 refine jh 4 (fun fr' h'=>Sep h' (geL h.length) ([])∧fr' 14 = .bool ((decide (lo_1≤n_0))&&(decide (n_0≤hi_2)))) (fun Q1 hN2=>?_) ?_
 ·simp only [List.take_succ_cons,List.take_zero]
  simp only [qg (g:=10),B0,reduceIte,reduceEqDiff]
  refine zf (t:=(decide (lo_1≤n_0))) (fun hg3=>?_) (fun hg3=>?_)
  ·simp only [hg3,qg (g:=10),zi,zf0,qe,zf2,qm,qb,qqv,qz,zp,qa,ql,B0,reduceIte,reduceEqDiff]
   exact hN2 _ _ ⟨hS,by rw [qcb hg3]; simp only [B0,reduceIte,reduceEqDiff]⟩
  ·simp only [hg3,qg (g:=10),kf,qz,qb,zo,qa,ql,B0,reduceIte,reduceEqDiff]
   exact hN2 _ _ ⟨hS,by rw [qcd hg3]; simp only [B0,reduceIte,reduceEqDiff]⟩
 rintro fr4 h6 ⟨hS7,f5⟩
 simp only [List.drop_succ_cons,List.drop_zero]
 simp only [f5,qe,qa,qs,B0,reduceIte,reduceEqDiff]
 have he:=qf hF
 subst he
 simp only [qw,B0,reduceIte,reduceEqDiff]
 exact rfl
theorem qd3 {W:Nat→Bool}{h:Heap} (hW:∀ b,
  (geL h.length) b→W b=true) (l_0:List Int) (r:Int) (hF:qbi l_0=some r) : Ret E W 66 [lst cI l_0] h (fun v h'=>cut h.length h' E.sz false 9 v=some
  (.int .i64 r)):=by
 refine Ret.of (fn:=x66) rfl (Run.of ?_)
 unfold qbi at hF
 have zf0:qy [lst cI l_0] 0=lst cI l_0:=rfl
 generalize qy [lst cI l_0]=fr0 at zf0 ⊢
 have hS:Sep h (geL h.length) []:=Sep.nil h
 simp only [x66,qd,qc,qe,qa,q3u,zf0,zj,qb,zr,qm,yi,qr,B0,reduceIte,reduceEqDiff]
 refine qq (t:=(decide ((List.length l_0:Int)=0))) (fun hc1=>?_) (fun hc1=>?_)
 ·rw [iteT hc1] at hF
  simp only [qd,qc,qe,qa,qs,B0,reduceIte,reduceEqDiff]
  have he:=qf hF
  subst he
  simp only [qw,B0,reduceIte,reduceEqDiff]
  exact rfl
 rw [iteF hc1] at hF
 obtain ⟨x2,hx3,hF4⟩:=qi hF
 simp only [qt,q48,qd,qc,zf0,qe,zj,qb,zr,qm,qcz,zt,B0,reduceIte,reduceEqDiff]
 refine qh (v := .ref (cI x2) 0) (je hx3 rfl) ?_
 simp only [qj,B0,reduceIte,reduceEqDiff]
 refine qh (v := .int .i64 x2) rfl ?_
 simp only [qe,qa,qs,B0,reduceIte,reduceEqDiff]
 have he:=qf hF4
 subst he
 simp only [qw,B0,reduceIte,reduceEqDiff]
 exact rfl
theorem qi1 {W:Nat→Bool}{h:Heap} (hW:∀ b,
  (geL h.length) b→W b=true) (l_0:List Int) (r:Bool) (hF:qan l_0=some r) : Ret E W 69 [lst cI l_0] h (fun v h'=>cut h.length h' E.sz false 9 v=some
  (.bool r)):=by
 refine Ret.of (fn:=x69) rfl (Run.of ?_)
 unfold qan at hF
 have zf0:qy [lst cI l_0] 0=lst cI l_0:=rfl
 generalize qy [lst cI l_0]=fr0 at zf0 ⊢
 have hS:Sep h (geL h.length) []:=Sep.nil h
 simp only [x69,qd,qc,qe,qa,q4m,zf0,zj,qb,zr,B0,reduceIte,reduceEqDiff]
 obtain ⟨oc3,hX5,hk6⟩:=jm hF
 simp only [q2t]
 refine uh (σ:=Unit) l_0 (fun i1 x2 _=>qat l_0 i1 x2 ) (fun s fr' h'=>fr' 0=lst cI l_0∧fr' 5=lst cI l_0∧Sep h' (geL h.length) ([])) hX5 ⟨zf0,
   rfl,hS⟩ (by simp only [B0,reduceIte,reduceEqDiff]) (by simp only [B0,reduceIte,
   reduceEqDiff]) (fun _ _ _ h=>h) rfl rfl (fun _ _ _ _ h=>h) (fun _ _ _ _ h=>h) (fun _ _ _ _ h=>h) (by decide) ?_ ?_
 ·rintro i1 x2 _ fr15 h16 hx20 ⟨f18,f19,hS17⟩ f21 f22 oc4 hF7 hr8 Q9 hN10 hB14 hK11 hR12 hE13
  unfold qat at hF7
  simp only [q4a,qd,qc,f21,qe,f19,zt,B0,reduceIte,reduceEqDiff]
  refine qh (v := .ref (cI x2) 0) (ug hx20 rfl) ?_
  simp only [qj,B0,reduceIte,reduceEqDiff]
  refine qh (v := .int .i64 x2) rfl ?_
  simp only [qe,qa,qzq,qd,qc,zb,B0,reduceIte,reduceEqDiff]
  refine jg rfl (qk za (qk za (qk za zd))) (qhm (fun b hb=>decide_eq_true hb) x2 0 100 _ rfl) ?_
  simp only [js,qb,kt,qe,B0,reduceIte,reduceEqDiff]
  obtain ⟨v26,hx27,hF28⟩:=qi hF7
  refine jh 12 (fun fr' h'=>Sep h' (geL h.length) ([])∧fr' 27 = .bool v26∧fr' 0=lst cI l_0∧fr' 5=lst cI l_0∧fr' 6 = .int .i64
    (List.length l_0:Int)∧fr' 7 = .int .i64 (i1:Int)) (fun Q23 hN24=>?_) ?_
  ·simp only [List.take_succ_cons,List.take_zero]
   simp only [qg (g:=15),B0,reduceIte,reduceEqDiff]
   refine zf (t:=(!(kw x2 0 100))) (fun hg25=>?_) (fun hg25=>?_)
   ·rw [iteT hg25] at hx27
    simp only [hg25,qg (g:=15),zz,qg (g:=18),wt,qz,qb,zp,qa,ql,B0,reduceIte,reduceEqDiff]
    have e29:=qf hx27
    exact hN24 _ _ ⟨hS17,by rw [←e29]; simp only [B0,reduceIte,reduceEqDiff],f18,f19,f22,f21⟩
   ·rw [iteF hg25] at hx27
    simp only [hg25,qg (g:=15),qv,qe,qm,qb,qby,B0,reduceIte,reduceEqDiff]
    obtain ⟨v33,hx34,hF35⟩:=qi hx27
    refine jh 8 (fun fr' h'=>Sep h' (geL h.length) ([])∧fr' 26 = .bool v33∧fr' 0=lst cI l_0∧fr' 5=lst cI l_0∧fr' 6 = .int .i64
      (List.length l_0:Int)∧fr' 7 = .int .i64 (i1:Int)∧fr' 15 = .bool (!(kw x2 0 100))) (fun Q30 hN31=>?_) ?_
    ·simp only [List.take_succ_cons,List.take_zero]
     simp only [qg (g:=18),B0,reduceIte,reduceEqDiff]
     refine zf (t:=(decide ((0:Int)<(i1:Int)))) (fun hg32=>?_) (fun hg32=>?_)
     ·rw [iteT hg32] at hx34
      obtain ⟨x36,hx37,hF38⟩:=qi hx34
      simp only [hg32,qg (g:=18),zi,f18,qe,qm,qb,qcz,zt,B0,reduceIte,reduceEqDiff]
      refine qh (v := .ref (cI x36) 0) (je hx37 rfl) ?_
      simp only [hg32,qg (g:=18),zi,qj,B0,reduceIte,reduceEqDiff]
      refine qh (v := .int .i64 x36) rfl ?_
      simp only [hg32,qg (g:=18),zi,qe,qm,qb,qby,hg25,qg (g:=15),qv,qz,zp,qa,ql,
        B0,reduceIte,reduceEqDiff]
      have e39:=qf hF38
      exact hN31 _ _ ⟨hS17,by rw [←e39]; simp only [B0,reduceIte,reduceEqDiff],f18,f19,f22,f21,by simp only [hg25,B0,reduceIte,reduceEqDiff]⟩
     ·rw [iteF hg32] at hx34
      simp only [hg32,qg (g:=18),kf,hg25,qg (g:=15),qv,qz,qb,zo,qa,ql,B0,reduceIte,
        reduceEqDiff]
      have e40:=qf hx34
      exact hN31 _ _ ⟨hS17,by rw [←e40]; simp only [B0,reduceIte,reduceEqDiff],f18,f19,f22,f21,by simp only [hg25,B0,reduceIte,reduceEqDiff]⟩
    rintro fr41 h48 ⟨hS49,f42,f43,f44,f45,f46,f47⟩
    simp only [List.drop_succ_cons,List.drop_zero]
    simp only [f47,hg25,qz,qb,zo,f42,qa,ql,B0,reduceIte,reduceEqDiff]
    have e50:=qf hF35
    exact hN24 _ _ ⟨hS49,by rw [←e50]; simp only [B0,reduceIte,reduceEqDiff],f43,f44,f45,f46⟩
  rintro fr51 h57 ⟨hS58,f52,f53,f54,f55,f56⟩
  simp only [List.drop_succ_cons,List.drop_zero]
  simp only [qa,f52,qr,B0,reduceIte,reduceEqDiff]
  refine qq (t:=v26) (fun hc59=>?_) (fun hc59=>?_)
  ·rw [iteT hc59] at hF28
   simp only [qd,qc,qe,qa,qs,B0,reduceIte,reduceEqDiff]
   have e60:=qf hF28
   subst e60
   have ho61:=hr8 _ rfl
   have hk62:=hk6
   rw [ho61] at hk62
   dsimp only [jnO] at hk62
   apply hR12
   have he:=qf hk62
   subst he
   simp only [qw,B0,reduceIte,reduceEqDiff]
   exact rfl
  rw [iteF hc59] at hF28
  simp only [qt,ql,B0,reduceIte,reduceEqDiff]
  have e63:=qf hF28
  exact hN10 _ _ _ e63.symm ⟨f53,f54,hS58⟩ (f56) (f55)
 rintro _ fr65 h66 rfl ⟨f68,f69,hS67⟩
 dsimp only [jnO] at hk6
 unfold qe0 at hk6
 simp only [q12,qd,qc,f68,qe,zj,qb,zr,qm,qqv,qa,qs,B0,reduceIte,reduceEqDiff]
 have he:=qf hk6
 subst he
 simp only [qw,B0,reduceIte,reduceEqDiff]
 exact rfl
end Go.Proofs.Ytpddolihbnfahaa.X
namespace Go.Proofs.Ytpddolihbnfahaa.X
open Go
open Nat (reduceEqDiff)
theorem qi5 {W:Nat→Bool}{h:Heap} (hW:∀ b,
  (geL h.length) b→W b=true) (logs_0:List (List Int)) (r:Election × Bool) (hF:wn logs_0=some r) : Ret E W 29 [lst (cL cI) logs_0] h
  (fun v h'=>∃ rv0_0 rc0_0 rv0_1 rc0_1 rv0_2 rc0_2,v = .tup [.agg [rv0_0,rv0_1,rv0_2],
  .bool r.2]∧SlN Server.R 6 46 rv0_0 r.1.Servers rc0_0∧SlF Letter.cells 7 93 rv0_1 r.1.Post rc0_1∧SlF Vote.cells 2 39 rv0_2 r.1.Led rc0_2∧Sep h' (geL h.length)
  (rc0_0++(rc0_1++(rc0_2++([]))))):=by
 refine Ret.of (fn:=x29) rfl (Run.of ?_)
 unfold wn at hF
 have zf0:qy [lst (cL cI) logs_0] 0=lst (cL cI) logs_0:=rfl
 generalize qy [lst (cL cI) logs_0]=fr0 at zf0 ⊢
 have hS:Sep h (geL h.length) []:=Sep.nil h
 simp only [x29,qd,qc,jv,B0,reduceIte,reduceEqDiff]
 refine jb hS (fun b1 h2 hS3=>?_)
 simp only [qe,qa,qvk,qd,qc,jv,B0,reduceIte,reduceEqDiff]
 refine jb hS3 (fun b5 h6 hS7=>?_)
 simp only [qa,q57,qd,qc,zf0,qe,zj,qb,zr,B0,reduceIte,reduceEqDiff]
 obtain ⟨oc21,hX23,hk24⟩:=jm hF
 simp only [q7g]
 refine uh (σ:=Election) logs_0 (fun i19 x20 s110=>qau i19 x20 s110) (fun s fr' h'=>∃ v16 c17,
   fr' 0=lst (cL cI) logs_0∧fr' 2 = .ptr b1 0∧fr' 4 = .ptr b5 0∧fr' 7=lst (cL cI) logs_0∧SlN Server.R 6 46 v16 s.Servers c17∧Sep h' (geL h.length)
   ([Blk1 b1 [.nil,.nil,.nil] 31]++([Blk1 b5 [v16,.nil,.nil] 31]++(c17++([]))))) hX23 ⟨.nil,[],zf0,rfl,rfl,rfl,SlN.nil,
   ((Sep.m1 hS7) : Sep _ (geL h.length) ([Blk1 b1 [.nil,.nil,.nil] 31]++([Blk1 b5 [.nil,.nil,.nil] 31]++([]))))⟩ (by simp only [B0,reduceIte,
   reduceEqDiff]) (by simp only [B0,reduceIte,reduceEqDiff]) (fun _ _ _ h=>h) rfl rfl (fun _ _ _ _ h=>h) (fun _ _ _ _ h=>h) (fun _ _ _ _ h=>h) (by decide) ?_ ?_
 ·rintro i19 x20 s14 fr33 h34 hx40 ⟨v16,c17,f36,f37,f38,f39,hv18,hS35⟩ f41 f42 oc22 hF25 hr26 Q27 hN28 hB32 hK29 hR30 hE31
  unfold qau at hF25
  simp only [q40,qd,qc,f39,f41,zt,B0,reduceIte,reduceEqDiff]
  refine qh (v := .ref ((cL cI) x20) 0) (ug hx40 rfl) ?_
  simp only [qj,B0,reduceIte,reduceEqDiff]
  refine qh (v:=lst cI x20) rfl ?_
  obtain ⟨v43,hx44,hF45⟩:=qi hF25
  simp only [qe,qa,q1z,qd,qc,zb,B0,reduceIte,reduceEqDiff]
  refine jg rfl (qk zx zd) (qi1 (fun b hb=>decide_eq_true hb) x20 v43 hx44) ?_
  simp only [js,qb,kt,qe,B0,reduceIte,reduceEqDiff]
  obtain ⟨v49,hx50,hF51⟩:=qi hF45
  refine jh 4 (fun fr' h'=>Sep h' (geL h.length) ([Blk1 b1 [.nil,.nil,.nil] 31]++([Blk1 b5 [v16,.nil,
    .nil] 31]++(c17++([]))))∧fr' 20 = .bool v49∧fr' 0=lst (cL cI) logs_0∧fr' 2 = .ptr b1 0∧fr' 4 = .ptr b5 0∧fr' 6=lst cI x20∧fr' 7=lst
    (cL cI) logs_0∧fr' 8 = .int .i64 (List.length logs_0:Int)∧fr' 9 = .int .i64 (i19:Int)) (fun Q46 hN47=>?_) ?_
  ·simp only [List.take_succ_cons,List.take_zero]
   simp only [qg (g:=16),B0,reduceIte,reduceEqDiff]
   refine zf (t:=(!v43)) (fun hg48=>?_) (fun hg48=>?_)
   ·rw [iteT hg48] at hx50
    simp only [hg48,qg (g:=16),zz,qz,qb,zp,qa,ql,B0,reduceIte,reduceEqDiff]
    have e52:=qf hx50
    exact hN47 _ _ ⟨(Sep.m2 (Sep.m2 (Sep.m2 hS35))),by rw [←e52]; simp only [B0,reduceIte,reduceEqDiff],f36,f37,f38,rfl,f39,f42,f41⟩
   ·rw [iteF hg48] at hx50
    obtain ⟨v53,hx54,hF55⟩:=qi hx50
    simp only [hg48,qg (g:=16),qv,qe,zb,B0,reduceIte,reduceEqDiff]
    refine jg rfl (qk zx zd) (qd3 (fun b hb=>decide_eq_true hb) x20 v53 hx54) ?_
    simp only [hg48,qg (g:=16),qv,qm,qb,qby,qz,zo,qa,ql,B0,reduceIte,reduceEqDiff]
    have e56:=qf hF55
    exact hN47 _ _ ⟨(Sep.m2 (Sep.m2 (Sep.m2 hS35))),by rw [←e56]; simp only [B0,reduceIte,reduceEqDiff],f36,f37,f38,rfl,f39,f42,f41⟩
  rintro fr57 h66 ⟨hS67,f58,f59,f60,f61,f62,f63,f64,f65⟩
  simp only [List.drop_succ_cons,List.drop_zero]
  simp only [qa,q0y,f58,qr,B0,reduceIte,reduceEqDiff]
  refine qq (t:=v49) (fun hc68=>?_) (fun hc68=>?_)
  ·rw [iteT hc68] at hF51
   simp only [qd,qc,run_build,evp,B0,reduceIte,reduceEqDiff]
   refine qh (v := .agg [.nil,.nil,.nil]) rfl ?_
   simp only [f60,ze,B0,reduceIte,reduceEqDiff]
   refine zc (us:=[.nil,.nil,.nil]) rfl (cs':=[.nil,.nil,.nil]) hS67 hW rfl rfl (Nat.le_of_ble_eq_true rfl) rfl (fun h69 hS70=>?_)
   simp only [qe,qa,qs,B0,reduceIte,reduceEqDiff]
   have e71:=qf hF51
   subst e71
   have ho72:=hr26 _ rfl
   have hk73:=hk24
   rw [ho72] at hk73
   dsimp only [jnO] at hk73
   apply hR30
   have he:=qf hk73
   subst he
   refine j7 (qk (kp (bb:=b1) (oo:=0) (v := .agg [.nil,.nil,
     .nil]) (f60) ((zw (Sep.bk _ _ _ hS70)).trans rfl)) (qk (yu (v := .bool false) (rfl)) zd)) ?_
   exact ⟨.nil,[],.nil,[],.nil,[],by first | trivial | rfl,SlN.nil,SlF.nil,SlF.nil,((Sep.dc ((Sep.dc ((Sep.dc (hS70)))))) : Sep _ (geL h.length) ([]))⟩
  rw [iteF hc68] at hF51
  simp only [qt,q3w,j5,f61,qd0,qp,Nat.reduceAdd,Nat.zero_add,Nat.add_zero,qx,qdd,B0,reduceIte,reduceEqDiff]
  refine qec (Sep.ltk (Sep.m1 hS67)) ?_
  refine q9 (v:=v16) ((z9 (Sep.bk _ _ _ (Sep.m1 hS67))).trans rfl) ?_
  simp only [w3,evp,B0,reduceIte,reduceEqDiff]
  refine wb (n:=1) (f:=cI) ([] : List Int) hS67 rfl rfl (fun v75 c76 h77 hv78 hS79 hq74=>?_)
  simp only [f62,ja,qp,qhp,B0,reduceIte,reduceEqDiff]
  obtain ⟨l81,hx82,hF83⟩:=qi hF51
  have hq84:=nwq (fun z hz=>Sep.dj (Sep.m1 (Sep.m1 hS79)) qfi (SlF.rowfp hv78 z hz))
  have hq85:=nwq (fun z hz=>Sep.dj (Sep.m1 (Sep.m2 hS79)) qfi (SlF.rowfp hv78 z hz))
  refine qlf (qug (fun z hz=>Sep.dj (Sep.m1 (Sep.m2 hS79)) qfi (SlF.rowfp hv78 z hz)) qiy) ?_
  refine wc (f:=cI) hv78 hS79 hW (fun _=>rfl) (fun _=>rfl) (w4 (fun _=>rfl)) hx82 (fun v86 c87 h88 hv89 hS90=>?_)
  simp only [qbo,evp,B0,reduceIte,reduceEqDiff]
  refine q9 (v := .agg [.int .i64 10,.int .i64 (-1),.bool false,.bool false,.nil,v86]) (qdr (qa8 (us:=[.int .i64 10]) (vs:=[.int .i64 10,.int .i64 0,
    .bool false,.bool false,.nil,.nil]) rfl rfl (Nat.le_of_ble_eq_true rfl) rfl rfl (qa8 (us:=[.int .i64 (-1)]) (vs:=[.int .i64 10,.int .i64 (-1),.bool false,
    .bool false,.nil,.nil]) rfl rfl (Nat.le_of_ble_eq_true rfl) rfl rfl (qa8 (us:=[v86]) (vs:=[.int .i64 10,.int .i64 (-1),.bool false,.bool false,.nil,
    v86]) (jl (SlF.one hv89)) rfl (Nat.le_of_ble_eq_true rfl) (qo (SlF.one hv89) zn) rfl qgc)))) ?_
  simp only [w3,evp,B0,reduceIte,reduceEqDiff]
  refine qim (R:=Server.R) (n:=6) (cs:=[.int .i64 10,.int .i64 (-1),.bool false,.bool false,.nil,
    v86]) (os:=[]++(c87)) (Sep.bi2 (c1:=[]) (c2:=c87) (S:=([Blk1 b1 [.nil,.nil,.nil] 31]++([Blk1 b5 [v16,.nil,
    .nil] 31]++(c17++([]))))) (hS90:Sep _ (geL h.length) (c87++([Blk1 b1 [.nil,.nil,.nil] 31]++([Blk1 b5 [v16,.nil,
    .nil] 31]++(c17++([]))))))) (qa8 (us:=[.int .i64 10,.int .i64 (-1),.bool false,.bool false,.nil,v86]) (vs:=[.int .i64 10,.int .i64 (-1),.bool false,
    .bool false,.nil,v86]) rfl rfl (Nat.le_of_ble_eq_true rfl) (qo rfl (qo rfl (qo rfl (qo rfl (qo rfl (qo (SlF.one hv89) zn)))))) rfl qgc)
    (Server.RI (x:=(Server.mk 10 (-1) false false [] l81)) SlF.nil hv89) rfl (fun v92 c93 h94 hv95 hS96=>?_)
  simp only [qcs,B0,reduceIte,reduceEqDiff]
  obtain ⟨l98,hx99,hF100⟩:=qi hF83
  refine qk0 (R:=Server.R) (c:=c17) hv18 hv95 (Sep.m3 hS96) hW Server.RO.len Server.RO.one hx99 (fun v101 c102 h103 hv104 hS105=>?_)
  simp only [f61,jf,qp,Nat.reduceAdd,Nat.zero_add,Nat.add_zero,qx,qdk,B0,reduceIte,reduceEqDiff]
  refine w9 (us:=[v101]) (jl (SlN.one hv104)) (cs':=[v101,.nil,
    .nil]) (Sep.m2 hS105) hW rfl (qo (SlN.one hv104) zn) (Nat.le_of_ble_eq_true rfl) rfl (fun h107 hS108=>?_)
  simp only [zk,ql,B0,reduceIte,reduceEqDiff]
  have e109:=qf hF100
  exact hN28 _ _ _ e109.symm ⟨v101,c102,f59,f60,f61,f63,hv104,(Sep.m2 (Sep.m1 (Sep.m1 hS108)))⟩ (f65) (f64)
 rintro s111 fr116 h117 rfl ⟨v113,c114,f119,f120,f121,f122,hv115,hS118⟩
 dsimp only [jnO] at hk24
 unfold qar at hk24
 simp only [qzg,qd,qc,f119,qe,zj,qb,zr,zb,B0,reduceIte,reduceEqDiff]
 refine jg rfl (qk za (qk za (qk za zd))) (qhm (fun b hb=>decide_eq_true hb) (List.length logs_0:Int) 1 5 _ rfl) ?_
 simp only [js,qb,kt,qa,q5f,qr,B0,reduceIte,reduceEqDiff]
 refine qq (t:=(!(kw (List.length logs_0:Int) 1 5))) (fun hc123=>?_) (fun hc123=>?_)
 ·rw [iteT hc123] at hk24
  simp only [qd,qc,run_build,evp,B0,reduceIte,reduceEqDiff]
  refine qh (v := .agg [.nil,.nil,.nil]) rfl ?_
  simp only [f120,ze,B0,reduceIte,reduceEqDiff]
  refine zc (us:=[.nil,.nil,.nil]) rfl (cs':=[.nil,.nil,.nil]) hS118 hW rfl rfl (Nat.le_of_ble_eq_true rfl) rfl (fun h124 hS125=>?_)
  simp only [qe,qa,qs,B0,reduceIte,reduceEqDiff]
  have he:=qf hk24
  subst he
  refine j7 (qk (kp (bb:=b1) (oo:=0) (v := .agg [.nil,.nil,
    .nil]) (f120) ((zw (Sep.bk _ _ _ hS125)).trans rfl)) (qk (yu (v := .bool false) (rfl)) zd)) ?_
  exact ⟨.nil,[],.nil,[],.nil,[],by first | trivial | rfl,SlN.nil,SlF.nil,SlF.nil,((Sep.dc ((Sep.dc ((Sep.dc (hS125)))))) : Sep _ (geL h.length) ([]))⟩
 rw [iteF hc123] at hk24
 simp only [qt,qd,qc,f121,qj,B0,reduceIte,reduceEqDiff]
 refine qh (v := .agg [v113,.nil,.nil]) ((zw (Sep.bk _ _ _ (Sep.m1 hS118))).trans rfl) ?_
 simp only [f120,ze,B0,reduceIte,reduceEqDiff]
 refine zc (us:=[v113,.nil,.nil]) rfl (cs':=[v113,.nil,
   .nil]) hS118 hW rfl (qo (SlN.one hv115) (qo rfl (qo rfl zn))) (Nat.le_of_ble_eq_true rfl) rfl (fun h126 hS127=>?_)
 simp only [qe,qa,qs,B0,reduceIte,reduceEqDiff]
 have he:=qf hk24
 subst he
 refine j7 (qk (kp (bb:=b1) (oo:=0) (v := .agg [v113,.nil,
   .nil]) (f120) ((zw (Sep.bk _ _ _ hS127)).trans rfl)) (qk (yu (v := .bool true) (rfl)) zd)) ?_
 exact ⟨v113,c114,.nil,[],.nil,[],by first | trivial | rfl,hv115,SlF.nil,SlF.nil,((Sep.dc ((Sep.dc (hS127)))) : Sep _ (geL h.length) (c114++([])))⟩
theorem ql0 {W:Nat→Bool}{h:Heap} (hW:∀ b,
  (geL h.length) b→W b=true) (e_0:Election) (k_1:Int) (r:Bool) (hF:some (qbv e_0 k_1)=some r) : Ret E W 63 [.agg [lst Server.cells e_0.Servers,
  lst Letter.cells e_0.Post,lst Vote.cells e_0.Led],.int .i64 k_1] h (fun v h'=>cut h.length h' E.sz false 9 v=some (.bool r)):=by
 refine Ret.of (fn:=x63) rfl (Run.of ?_)
 unfold qbv at hF
 have zf0:qy [.agg [lst Server.cells e_0.Servers,lst Letter.cells e_0.Post,lst Vote.cells e_0.Led],.int .i64 k_1] 0 = .agg [lst Server.cells e_0.Servers,
   lst Letter.cells e_0.Post,lst Vote.cells e_0.Led]:=rfl
 have zf1:qy [.agg [lst Server.cells e_0.Servers,lst Letter.cells e_0.Post,lst Vote.cells e_0.Led],.int .i64 k_1] 1 = .int .i64 k_1:=rfl
 generalize qy [.agg [lst Server.cells e_0.Servers,lst Letter.cells e_0.Post,lst Vote.cells e_0.Led],.int .i64 k_1]=fr0 at zf0 zf1 ⊢
 have hS:Sep h (geL h.length) []:=Sep.nil h
 simp only [x63,qd,qc,kx,zf0,B0,reduceIte,reduceEqDiff]
 refine ju (cs:=[lst Server.cells e_0.Servers,lst Letter.cells e_0.Post,lst Vote.cells e_0.Led]) hS rfl rfl rfl (fun b1 h2 hS3=>?_)
 simp only [qe,qa,B0,reduceIte,reduceEqDiff]
 refine jd hS3 hW (by simp only [B0,reduceIte,reduceEqDiff]) (fun h5 hS6=>?_)
 simp only [jc,q2q,qd,qc,zf1,qe,qm,qb,qi6,B0,reduceIte,reduceEqDiff]
 refine jh 6 (fun fr' h'=>Sep h' (geL h.length) ([])∧fr' 13 = .bool ((decide ((0:Int)≤k_1))&&(decide (k_1<(List.length e_0.Servers:Int))))) (fun Q7 hN8=>?_) ?_
 ·simp only [List.take_succ_cons,List.take_zero]
  simp only [qg (g:=7),B0,reduceIte,reduceEqDiff]
  refine zf (t:=(decide ((0:Int)≤k_1))) (fun hg9=>?_) (fun hg9=>?_)
  ·simp only [hg9,qg (g:=7),zi,zf1,qe,qn,qb,Nat.reduceAdd,Nat.zero_add,Nat.add_zero,qu,qj,B0,reduceIte,reduceEqDiff]
   refine qh (v:=lst Server.cells e_0.Servers) rfl ?_
   simp only [hg9,qg (g:=7),zi,zj,qb,zr,qm,kr,qz,zp,qa,ql,B0,reduceIte,reduceEqDiff]
   exact hN8 _ _ ⟨hS6,by rw [qcb hg9]; simp only [B0,reduceIte,reduceEqDiff]⟩
  ·simp only [hg9,qg (g:=7),kf,qz,qb,zo,qa,ql,B0,reduceIte,reduceEqDiff]
   exact hN8 _ _ ⟨hS6,by rw [qcd hg9]; simp only [B0,reduceIte,reduceEqDiff]⟩
 rintro fr10 h12 ⟨hS13,f11⟩
 simp only [List.drop_succ_cons,List.drop_zero]
 simp only [f11,qe,qa,qs,B0,reduceIte,reduceEqDiff]
 have he:=qf hF
 subst he
 simp only [qw,B0,reduceIte,reduceEqDiff]
 exact rfl
theorem qil {W:Nat→Bool}{h:Heap}{lo:Nat→Prop}{S0:List Obj} (hW:∀ b,
  lo b→W b=true) (e_0:Election) (pv0_0:XV) (pc0_0:List Obj) (ph0_0:SlN Server.R 6 46 pv0_0 e_0.Servers pc0_0) (pv0_1:XV) (pc0_1:List Obj)
  (ph0_1:SlF Letter.cells 7 93 pv0_1 e_0.Post pc0_1) (pv0_2:XV) (pc0_2:List Obj) (ph0_2:SlF Vote.cells 2 39 pv0_2 e_0.Led pc0_2) (k_1:Int) (r:Election)
  (hF:qcl e_0 k_1=some r) (hS:Sep h lo (pc0_0++(pc0_1++(pc0_2++(S0))))) : Ret E W 116 [.agg [pv0_0,pv0_1,pv0_2],
  .int .i64 k_1] h (fun v h'=>∃ rc0_0 rc0_1 rv0_2 rc0_2,v = .agg [pv0_0,pv0_1,
  rv0_2]∧SlN Server.R 6 46 pv0_0 r.Servers rc0_0∧SlF Letter.cells 7 93 pv0_1 r.Post rc0_1∧SlF Vote.cells 2 39 rv0_2 r.Led rc0_2∧Sep h' lo (rc0_0++(rc0_1++(rc0_2 ++
  (S0))))):=by
 refine Ret.of (fn:=qqm) rfl (Run.of ?_)
 unfold qcl at hF
 have zf0:qy [.agg [pv0_0,pv0_1,pv0_2],.int .i64 k_1] 0 = .agg [pv0_0,pv0_1,pv0_2]:=rfl
 have zf1:qy [.agg [pv0_0,pv0_1,pv0_2],.int .i64 k_1] 1 = .int .i64 k_1:=rfl
 generalize qy [.agg [pv0_0,pv0_1,pv0_2],.int .i64 k_1]=fr0 at zf0 zf1 ⊢
 simp only [qqm,qd,qc,kx,zf0,B0,reduceIte,reduceEqDiff]
 refine ju (cs:=[pv0_0,pv0_1,pv0_2]) hS rfl rfl (qo (SlN.one ph0_0) (qo (SlF.one ph0_1) (qo (SlF.one ph0_2) zn))) (fun b1 h2 hS3=>?_)
 simp only [jv,B0,reduceIte,reduceEqDiff]
 refine jb hS3 (fun b5 h6 hS7=>?_)
 simp only [qa,qwe,qd,qc,qn,qb,Nat.reduceAdd,Nat.zero_add,Nat.add_zero,qx,qj,B0,reduceIte,reduceEqDiff]
 refine qh (v:=pv0_0) ((z9 (Sep.bk _ _ _ (Sep.m1 hS7))).trans rfl) ?_
 obtain ⟨x9,hx10,hF11⟩:=qi hF
 simp only [zf1,qe,zt,B0,reduceIte,reduceEqDiff]
 obtain ⟨b12,hb13⟩:=SlN.isrow ph0_0 (yo hx10)
 refine qh (SlN.ia ph0_0 hb13 hx10) ?_
 obtain ⟨c14,cs15,os16,hv17,hR18,hS19⟩:=SlG.opn (SlN.toG ph0_0 hb13 Server.RO.len) hx10 jp Server.RO.len (Sep.m2 hS7)
 obtain ⟨v21,c22,v25,c26,hv23,hv27,rfl,rfl⟩:=hR18
 have hS20:=Sep.no2 hS19
 simp only [qj,B0,reduceIte,reduceEqDiff]
 refine qh (v := .agg [.int .i64 x9.Term,.int .i64 x9.Voted,.bool x9.Stands,.bool x9.Leads,v21,
   v25]) ((SlG.lds (o:=0) hv17 rfl hx10 hS20 (Nat.le_of_ble_eq_true rfl)).trans rfl) ?_
 simp only [jv,B0,reduceIte,reduceEqDiff]
 refine jb hS20 (fun b29 h30 hS31=>?_)
 simp only [ze,B0,reduceIte,reduceEqDiff]
 refine zc (us:=[.int .i64 x9.Term,.int .i64 x9.Voted,.bool x9.Stands,.bool x9.Leads,v21,v25]) rfl (cs':=[.int .i64 x9.Term,.int .i64 x9.Voted,.bool x9.Stands,
   .bool x9.Leads,v21,v25]) hS31 hW rfl (qo rfl (qo rfl (qo rfl (qo rfl (qo (SlF.one hv23) (qo (SlF.one hv27) zn)))))) (Nat.le_of_ble_eq_true rfl) rfl
   (fun h33 hS34=>?_)
 simp only [qa,qr9,qd,qc,qn,qb,Nat.reduceAdd,Nat.zero_add,Nat.add_zero,qx,qj,B0,reduceIte,reduceEqDiff]
 refine qh (v := .bool x9.Stands) ((z9 (Sep.bk _ _ _ hS34)).trans rfl) ?_
 simp only [qe,B0,reduceIte,reduceEqDiff]
 refine jh 9 (fun fr' h'=>Sep h' lo ([Blk1 b1 [pv0_0,pv0_1,pv0_2] 31]++([Blk1 b5 [.nil,.nil,.nil] 31]++([Blk1 b29 [.int .i64 x9.Term,.int .i64 x9.Voted,
   .bool x9.Stands,.bool x9.Leads,v21,
   v25] 46]++(c14++(pc0_1++(pc0_2++(c22++(c26++(S0)))))))))∧fr' 22 = .bool (x9.Stands&&(decide ((List.length e_0.Servers:Int)<(IntKind.wrap .i64
   ((2:Int)*(List.length x9.Got:Int))))))∧fr' 1 = .int .i64 k_1∧fr' 2 = .ptr b1 0∧fr' 4 = .ptr b5 0∧fr' 5 = .ptr b29 0) (fun Q35 hN36=>?_) ?_
 ·simp only [List.take_succ_cons,List.take_zero]
  simp only [qg (g:=13),B0,reduceIte,reduceEqDiff]
  refine zf (t:=x9.Stands) (fun hg37=>?_) (fun hg37=>?_)
  ·simp only [hg37,qg (g:=13),zi,qn,qb,Nat.reduceAdd,Nat.zero_add,Nat.add_zero,qx,qj,B0,reduceIte,reduceEqDiff]
   refine qh (v:=v21) ((z9 (Sep.bk _ _ _ hS34)).trans rfl) ?_
   simp only [hg37,qg (g:=13),zi,zj,qb,SlF.plen hv23,qm,zag,qn,Nat.reduceAdd,Nat.zero_add,Nat.add_zero,qx,qj,B0,
     reduceIte,reduceEqDiff]
   refine qh (v:=pv0_0) ((z9 (Sep.bk _ _ _ (Sep.m5 hS34))).trans rfl) ?_
   simp only [hg37,qg (g:=13),zi,zj,qb,SlG.plen hv17,qm,qby,qz,zp,qa,ql,B0,reduceIte,reduceEqDiff]
   exact hN36 _ _ ⟨(Sep.m7 (Sep.m6 (Sep.m5 (Sep.m5 (Sep.m7 (Sep.m7 (Sep.m3 (Sep.m3 hS34)))))))),by rw [qcb hg37]; simp only [B0,reduceIte,reduceEqDiff],zf1,rfl,rfl,rfl⟩
  ·simp only [hg37,qg (g:=13),kf,qz,qb,zo,qa,ql,B0,reduceIte,reduceEqDiff]
   exact hN36 _ _ ⟨(Sep.m7 (Sep.m6 (Sep.m5 (Sep.m5 (Sep.m7 (Sep.m7 (Sep.m3 (Sep.m3 hS34)))))))),by rw [qcd hg37]; simp only [B0,reduceIte,reduceEqDiff],zf1,rfl,rfl,rfl⟩
 rintro fr38 h44 ⟨hS45,f39,f40,f41,f42,f43⟩
 simp only [List.drop_succ_cons,List.drop_zero]
 simp only [qa,qry,f39,qr,B0,reduceIte,reduceEqDiff]
 refine qq (t:=(x9.Stands&&(decide ((List.length e_0.Servers:Int)<(IntKind.wrap .i64 ((2:Int)*(List.length x9.Got:Int))))))) (fun hc46=>?_)
   (fun hc46=>?_)
 ·rw [iteT hc46] at hF11
  simp only [qs9,qd,qc,f43,qn,qb,Nat.reduceAdd,Nat.zero_add,Nat.add_zero,qx,ze,B0,reduceIte,reduceEqDiff]
  refine zc (us:=[.bool false]) rfl (cs':=[.int .i64 x9.Term,.int .i64 x9.Voted,.bool false,.bool x9.Leads,v21,
    v25]) (Sep.m2 hS45) hW rfl rfl (Nat.le_of_ble_eq_true rfl) rfl (fun h47 hS48=>?_)
  simp only [qa,qws,qd,qc,f43,qn,qb,Nat.reduceAdd,Nat.zero_add,Nat.add_zero,qx,ze,B0,reduceIte,reduceEqDiff]
  refine zc (us:=[.bool true]) rfl (cs':=[.int .i64 x9.Term,.int .i64 x9.Voted,.bool false,.bool true,v21,
    v25]) hS48 hW rfl rfl (Nat.le_of_ble_eq_true rfl) rfl (fun h49 hS50=>?_)
  simp only [qa,qtz,qd,qc,f41,qn,qb,Nat.reduceAdd,Nat.zero_add,Nat.add_zero,qx,qj,B0,reduceIte,reduceEqDiff]
  refine qh (v:=pv0_0) ((z9 (Sep.bk _ _ _ (Sep.m1 hS50))).trans rfl) ?_
  simp only [f40,qe,f43,qj,B0,reduceIte,reduceEqDiff]
  refine qh (v := .agg [.int .i64 x9.Term,.int .i64 x9.Voted,.bool false,.bool true,v21,v25]) ((zw (Sep.bk _ _ _ hS50)).trans rfl) ?_
  simp only [zt,B0,reduceIte,reduceEqDiff]
  refine qh (SlG.ia hv17 hx10) ?_
  simp only [ze,B0,reduceIte,reduceEqDiff]
  refine k8 (n:=6) (us:=[.int .i64 x9.Term,.int .i64 x9.Voted,.bool false,.bool true,v21,v25]) (cs:=[.int .i64 x9.Term,.int .i64 x9.Voted,.bool x9.Stands,
    .bool x9.Leads,v21,v25]) (o:=0) (cs':=[.int .i64 x9.Term,.int .i64 x9.Voted,.bool false,.bool true,v21,
    v25]) rfl hv17 rfl hx10 (Sep.m3 hS50) hW rfl (qo rfl (qo rfl (qo rfl (qo rfl (qo (SlF.one hv23) (qo (SlF.one hv27) zn))))))
    (Nat.le_of_ble_eq_true rfl) rfl (fun c53 h51 hv54 hS52=>?_)
  simp only [qa,quu,qc,f41,qn,qb,Nat.reduceAdd,Nat.zero_add,Nat.add_zero,qx,qj,B0,reduceIte,reduceEqDiff]
  refine qh (v:=pv0_2) ((z9 (Sep.bk _ _ _ (Sep.m2 hS52))).trans rfl) ?_
  simp only [f43,qn,qb,Nat.reduceAdd,Nat.zero_add,Nat.add_zero,qx,qj,B0,reduceIte,reduceEqDiff]
  refine qh (v := .int .i64 x9.Term) ((z9 (Sep.bk _ _ _ (Sep.m1 hS52))).trans rfl) ?_
  simp only [f40,qe,run_build,evp,B0,reduceIte,reduceEqDiff]
  refine qh (v := .agg [.int .i64 x9.Term,.int .i64 k_1]) rfl ?_
  simp only [yg,evp,B0,reduceIte,reduceEqDiff]
  refine k6 (n:=2) (f:=Vote.cells) [(Vote.mk x9.Term k_1)] hS52 rfl rfl (fun v55 c56 h57 hv58 hS59=>?_)
  simp only [xz,B0,reduceIte,reduceEqDiff]
  obtain ⟨l61,hx62,hF63⟩:=qi hF11
  refine we (f:=Vote.cells) ph0_2 (Sep.m6 hS59) hW (fun _=>rfl) (fun _=>rfl) (SlF.first hv58 hS59 (fun _=>rfl)) hx62 (fun v64 c65 h66 hv67 hS68=>?_)
  simp only [f41,qn,qb,Nat.reduceAdd,Nat.zero_add,Nat.add_zero,qx,ze,B0,reduceIte,reduceEqDiff]
  refine zc (us:=[v64]) (jl (SlF.one hv67)) (cs':=[pv0_0,pv0_1,
    v64]) (Sep.m4 hS68) hW rfl (qo (SlF.one hv67) zn) (Nat.le_of_ble_eq_true rfl) rfl (fun h70 hS71=>?_)
  simp only [qa,qd,qc,f41,qj,B0,reduceIte,reduceEqDiff]
  refine qh (v := .agg [pv0_0,pv0_1,v64]) ((zw (Sep.bk _ _ _ hS71)).trans rfl) ?_
  simp only [f42,ze,B0,reduceIte,reduceEqDiff]
  refine zc (us:=[pv0_0,pv0_1,v64]) rfl (cs':=[pv0_0,pv0_1,
    v64]) (Sep.m5 hS71) hW rfl (qo (SlG.one hv54) (qo (SlF.one ph0_1) (qo (SlF.one hv67) zn))) (Nat.le_of_ble_eq_true rfl) rfl (fun h72 hS73=>?_)
  simp only [qa,qs,B0,reduceIte,reduceEqDiff]
  obtain ⟨c74,hv75,hS76⟩:=SlG.cls (e':=(Server.mk x9.Term x9.Voted false true x9.Got x9.Log)) (c:=c53) (os:=c22++(c26)) hv54 rfl hx10 jp (Server.RI (x :=
    (Server.mk x9.Term x9.Voted false true x9.Got x9.Log)) hv23 hv27) (Sep.ni2 (c1:=c22) (c2:=c26) (Sep.m6 (Sep.m8 (Sep.m8 hS73))))
  have hx77:=jz (x':=(Server.mk x9.Term x9.Voted false true x9.Got x9.Log)) hx10
  have hv78:=SlG.toN hv75
  have he:=qf hF63
  subst he
  refine qah (bb:=b5) (oo:=0) (v := .agg [pv0_0,pv0_1,v64]) (by simp only [f42,B0,reduceIte,reduceEqDiff]) ((zw (Sep.bk _ _ _ (Sep.m1 hS76))).trans rfl) ?_
  exact ⟨c74,pc0_1,v64,c65,by first | trivial | rfl,hv78,ph0_1,hv67,
    (Sep.m2 (Sep.m2 (Sep.m1 (Sep.dc (Sep.m2 (Sep.dc (Sep.m2 (Sep.dc (Sep.m1 (Sep.dc (Sep.m1 hS76)))))))))))⟩
 rw [iteF hc46] at hF11
 simp only [qt,qd,qc,f41,qj,B0,reduceIte,reduceEqDiff]
 refine qh (v := .agg [pv0_0,pv0_1,pv0_2]) ((zw (Sep.bk _ _ _ hS45)).trans rfl) ?_
 simp only [f42,ze,B0,reduceIte,reduceEqDiff]
 refine zc (us:=[pv0_0,pv0_1,pv0_2]) rfl (cs':=[pv0_0,pv0_1,
   pv0_2]) (Sep.m1 hS45) hW rfl (qo (SlG.one hv17) (qo (SlF.one ph0_1) (qo (SlF.one ph0_2) zn))) (Nat.le_of_ble_eq_true rfl) rfl (fun h79 hS80=>?_)
 simp only [qa,qs,B0,reduceIte,reduceEqDiff]
 obtain ⟨c81,hv82,hS83⟩:=SlG.cls0 (c:=c14) (os:=c22++(c26)) hv17 rfl hx10 jp (Server.RI (x:=x9) hv23 hv27) (Sep.ni2 (c1:=c22) (c2:=c26) (Sep.m5 (Sep.m7
   (Sep.m7 hS80))))
 have hv84:=SlG.toN hv82
 have he:=qf hF11
 subst he
 refine qah (bb:=b5) (oo:=0) (v := .agg [pv0_0,pv0_1,pv0_2]) (by simp only [f42,B0,reduceIte,reduceEqDiff]) ((zw (Sep.bk _ _ _ (Sep.m1 hS83))).trans rfl) ?_
 exact ⟨c81,pc0_1,pv0_2,pc0_2,by first | trivial | rfl,hv84,ph0_1,ph0_2,(Sep.m2 (Sep.m2 (Sep.m2 (Sep.dc (Sep.m1 (Sep.dc (Sep.m1 (Sep.dc (Sep.m1 hS83)))))))))⟩
theorem qj9 {W:Nat→Bool}{h:Heap}{lo:Nat→Prop}{S0:List Obj} (hW:∀ b,
  lo b→W b=true) (v_0:Election) (pv0_0:XV) (pc0_0:List Obj) (ph0_0:SlN Server.R 6 46 pv0_0 v_0.Servers pc0_0) (pv0_1:XV) (pc0_1:List Obj)
  (ph0_1:SlF Letter.cells 7 93 pv0_1 v_0.Post pc0_1) (pv0_2:XV) (pc0_2:List Obj) (ph0_2:SlF Vote.cells 2 39 pv0_2 v_0.Led pc0_2) (v_1:Int) (r:Election × Bool)
  (hF:qbt v_0 v_1=some r) (hS:Sep h lo (pc0_0++(pc0_1++(pc0_2++(S0))))) : Ret E W 97 [.agg [pv0_0,pv0_1,pv0_2],
  .int .i64 v_1] h (fun v h'=>∃ rc0_0 rv0_1 rc0_1 rv0_2 rc0_2,v = .tup [.agg [pv0_0,rv0_1,rv0_2],
  .bool r.2]∧SlN Server.R 6 46 pv0_0 r.1.Servers rc0_0∧SlF Letter.cells 7 93 rv0_1 r.1.Post rc0_1∧SlF Vote.cells 2 39 rv0_2 r.1.Led rc0_2∧Sep h' lo (rc0_0++(rc0_1 ++
  (rc0_2++(S0))))):=by
 refine Ret.of (fn:=x97) rfl (Run.of ?_)
 unfold qbt at hF
 have zf0:qy [.agg [pv0_0,pv0_1,pv0_2],.int .i64 v_1] 0 = .agg [pv0_0,pv0_1,pv0_2]:=rfl
 have zf1:qy [.agg [pv0_0,pv0_1,pv0_2],.int .i64 v_1] 1 = .int .i64 v_1:=rfl
 generalize qy [.agg [pv0_0,pv0_1,pv0_2],.int .i64 v_1]=fr0 at zf0 zf1 ⊢
 simp only [x97,qd,qc,kx,zf0,B0,reduceIte,reduceEqDiff]
 refine ju (cs:=[pv0_0,pv0_1,pv0_2]) hS rfl rfl (qo (SlN.one ph0_0) (qo (SlF.one ph0_1) (qo (SlF.one ph0_2) zn))) (fun b1 h2 hS3=>?_)
 simp only [jv,B0,reduceIte,reduceEqDiff]
 refine jb hS3 (fun b5 h6 hS7=>?_)
 simp only [qe,qa,qva,qd,qc,qn,qb,Nat.reduceAdd,Nat.zero_add,Nat.add_zero,qx,qj,B0,reduceIte,reduceEqDiff]
 refine qh (v:=pv0_0) ((z9 (Sep.bk _ _ _ (Sep.m1 hS7))).trans rfl) ?_
 obtain ⟨x9,hx10,hF11⟩:=qi hF
 simp only [zf1,qe,zt,B0,reduceIte,reduceEqDiff]
 obtain ⟨b12,hb13⟩:=SlN.isrow ph0_0 (yo hx10)
 refine qh (SlN.ia ph0_0 hb13 hx10) ?_
 obtain ⟨c14,cs15,os16,hv17,hR18,hS19⟩:=SlG.opn (SlN.toG ph0_0 hb13 Server.RO.len) hx10 jp Server.RO.len (Sep.m2 hS7)
 obtain ⟨v21,c22,v25,c26,hv23,hv27,rfl,rfl⟩:=hR18
 have hS20:=Sep.no2 hS19
 simp only [qj,B0,reduceIte,reduceEqDiff]
 refine qh (v := .agg [.int .i64 x9.Term,.int .i64 x9.Voted,.bool x9.Stands,.bool x9.Leads,v21,
   v25]) ((SlG.lds (o:=0) hv17 rfl hx10 hS20 (Nat.le_of_ble_eq_true rfl)).trans rfl) ?_
 simp only [jv,B0,reduceIte,reduceEqDiff]
 refine jb hS20 (fun b29 h30 hS31=>?_)
 simp only [ze,B0,reduceIte,reduceEqDiff]
 refine zc (us:=[.int .i64 x9.Term,.int .i64 x9.Voted,.bool x9.Stands,.bool x9.Leads,v21,v25]) rfl (cs':=[.int .i64 x9.Term,.int .i64 x9.Voted,.bool x9.Stands,
   .bool x9.Leads,v21,v25]) hS31 hW rfl (qo rfl (qo rfl (qo rfl (qo rfl (qo (SlF.one hv23) (qo (SlF.one hv27) zn)))))) (Nat.le_of_ble_eq_true rfl) rfl
   (fun h33 hS34=>?_)
 simp only [qa,qr8,qd,qc,qn,qb,Nat.reduceAdd,Nat.zero_add,Nat.add_zero,qx,qj,B0,reduceIte,reduceEqDiff]
 refine qh (v := .bool x9.Leads) ((z9 (Sep.bk _ _ _ hS34)).trans rfl) ?_
 simp only [qe,B0,reduceIte,reduceEqDiff]
 refine jh 4 (fun fr' h'=>Sep h' lo ([Blk1 b1 [pv0_0,pv0_1,pv0_2] 31]++([Blk1 b5 [.nil,.nil,.nil] 31]++([Blk1 b29 [.int .i64 x9.Term,.int .i64 x9.Voted,
   .bool x9.Stands,.bool x9.Leads,v21,
   v25] 46]++(c14++(pc0_1++(pc0_2++(c22++(c26++(S0)))))))))∧fr' 19 = .bool (x9.Leads||(decide
   (x9.Term=100)))∧fr' 1 = .int .i64 v_1∧fr' 2 = .ptr b1 0∧fr' 4 = .ptr b5 0∧fr' 6 = .ptr b29 0) (fun Q35 hN36=>?_) ?_
 ·simp only [List.take_succ_cons,List.take_zero]
  simp only [qg (g:=15),B0,reduceIte,reduceEqDiff]
  refine zf (t:=x9.Leads) (fun hg37=>?_) (fun hg37=>?_)
  ·simp only [hg37,qg (g:=15),zz,qz,qb,zp,qa,ql,B0,reduceIte,reduceEqDiff]
   exact hN36 _ _ ⟨(Sep.m7 (Sep.m6 (Sep.m5 (Sep.m5 (Sep.m7 (Sep.m7 (Sep.m3 (Sep.m3 hS34)))))))),by rw [orT hg37]; simp only [B0,reduceIte,reduceEqDiff],zf1,rfl,rfl,rfl⟩
  ·simp only [hg37,qg (g:=15),qv,qn,qb,Nat.reduceAdd,Nat.zero_add,Nat.add_zero,qx,qj,B0,reduceIte,reduceEqDiff]
   refine qh (v := .int .i64 x9.Term) ((z9 (Sep.bk _ _ _ hS34)).trans rfl) ?_
   simp only [hg37,qg (g:=15),qv,qm,qb,yi,qz,zo,qa,ql,B0,reduceIte,reduceEqDiff]
   exact hN36 _ _ ⟨(Sep.m7 (Sep.m6 (Sep.m5 (Sep.m5 (Sep.m7 (Sep.m7 (Sep.m3 (Sep.m3 hS34)))))))),by rw [orF hg37]; simp only [B0,reduceIte,reduceEqDiff],zf1,rfl,rfl,rfl⟩
 rintro fr38 h44 ⟨hS45,f39,f40,f41,f42,f43⟩
 simp only [List.drop_succ_cons,List.drop_zero]
 simp only [f39,qe,B0,reduceIte,reduceEqDiff]
 refine jh 10 (fun fr' h'=>Sep h' lo ([Blk1 b1 [pv0_0,pv0_1,pv0_2] 31]++([Blk1 b5 [.nil,.nil,.nil] 31]++([Blk1 b29 [.int .i64 x9.Term,.int .i64 x9.Voted,
   .bool x9.Stands,.bool x9.Leads,v21,
   v25] 46]++(c14++(pc0_1++(pc0_2++(c22++(c26++(S0)))))))))∧fr' 30 = .bool ((x9.Leads||(decide (x9.Term=100)))||(decide ((20:Int)<(IntKind.wrap .i64
   ((IntKind.wrap .i64 ((List.length v_0.Post:Int) +
   (List.length v_0.Servers:Int))) - 1)))))∧fr' 1 = .int .i64 v_1∧fr' 2 = .ptr b1 0∧fr' 4 = .ptr b5 0∧fr' 6 = .ptr b29 0) (fun Q46 hN47=>?_) ?_
 ·simp only [List.take_succ_cons,List.take_zero]
  simp only [qg (g:=20),B0,reduceIte,reduceEqDiff]
  refine zf (t:=(x9.Leads||(decide (x9.Term=100)))) (fun hg48=>?_) (fun hg48=>?_)
  ·simp only [hg48,qg (g:=20),zz,qz,qb,zp,qa,ql,B0,reduceIte,reduceEqDiff]
   exact hN47 _ _ ⟨(Sep.m7 (Sep.m7 (Sep.m7 (Sep.m7 (Sep.m7 (Sep.m7 (Sep.m7 (Sep.m7 hS45)))))))),by rw [orT hg48]; simp only [B0,reduceIte,reduceEqDiff],f40,f41,f42,f43⟩
  ·simp only [hg48,qg (g:=20),qv,f41,qn,qb,Nat.reduceAdd,Nat.zero_add,Nat.add_zero,qx,qj,B0,reduceIte,reduceEqDiff]
   refine qh (v:=pv0_1) ((z9 (Sep.bk _ _ _ hS45)).trans rfl) ?_
   simp only [hg48,qg (g:=20),qv,zj,qb,SlF.plen ph0_1,f41,qn,Nat.reduceAdd,Nat.zero_add,Nat.add_zero,qx,qj,B0,
     reduceIte,reduceEqDiff]
   refine qh (v:=pv0_0) ((z9 (Sep.bk _ _ _ hS45)).trans rfl) ?_
   simp only [hg48,qg (g:=20),qv,zj,qb,SlG.plen hv17,qm,j8,qcz,qby,qz,zo,qa,ql,B0,reduceIte,
     reduceEqDiff]
   exact hN47 _ _ ⟨(Sep.m7 (Sep.m7 (Sep.m7 (Sep.m7 (Sep.m7 (Sep.m7 (Sep.m7 (Sep.m7 hS45)))))))),by rw [orF hg48]; simp only [B0,reduceIte,reduceEqDiff],f40,f41,f42,f43⟩
 rintro fr49 h55 ⟨hS56,f50,f51,f52,f53,f54⟩
 simp only [List.drop_succ_cons,List.drop_zero]
 simp only [qa,q1j,f50,qr,B0,reduceIte,reduceEqDiff]
 refine qq (t:=((x9.Leads||(decide (x9.Term=100)))||(decide ((20:Int)<(IntKind.wrap .i64 ((IntKind.wrap .i64 ((List.length v_0.Post:Int) +
   (List.length v_0.Servers:Int))) - 1)))))) (fun hc57=>?_) (fun hc57=>?_)
 ·rw [iteT hc57] at hF11
  simp only [qd,qc,f52,qj,B0,reduceIte,reduceEqDiff]
  refine qh (v := .agg [pv0_0,pv0_1,pv0_2]) ((zw (Sep.bk _ _ _ hS56)).trans rfl) ?_
  simp only [f53,ze,B0,reduceIte,reduceEqDiff]
  refine zc (us:=[pv0_0,pv0_1,pv0_2]) rfl (cs':=[pv0_0,pv0_1,
    pv0_2]) (Sep.m1 hS56) hW rfl (qo (SlG.one hv17) (qo (SlF.one ph0_1) (qo (SlF.one ph0_2) zn))) (Nat.le_of_ble_eq_true rfl) rfl (fun h58 hS59=>?_)
  simp only [qe,qa,qs,B0,reduceIte,reduceEqDiff]
  obtain ⟨c60,hv61,hS62⟩:=SlG.cls0 (c:=c14) (os:=c22++(c26)) hv17 rfl hx10 jp (Server.RI (x:=x9) hv23 hv27) (Sep.ni2 (c1:=c22) (c2:=c26) (Sep.m5 (Sep.m7
    (Sep.m7 hS59))))
  have hv63:=SlG.toN hv61
  have he:=qf hF11
  subst he
  refine j7 (qk (kp (bb:=b5) (oo:=0) (v := .agg [pv0_0,pv0_1,
    pv0_2]) (f53) ((zw (Sep.bk _ _ _ (Sep.m1 hS62))).trans rfl)) (qk (yu (v := .bool false) (rfl)) zd)) ?_
  exact ⟨c60,pv0_1,pc0_1,pv0_2,pc0_2,by first | trivial | rfl,hv63,ph0_1,ph0_2,(Sep.m2 (Sep.m2 (Sep.m2 (Sep.dc (Sep.m1 (Sep.dc (Sep.m1 (Sep.dc (Sep.m1 hS62)))))))))⟩
 rw [iteF hc57] at hF11
 simp only [qt,qsv,qd,qc,f54,qn,qb,Nat.reduceAdd,Nat.zero_add,Nat.add_zero,qx,qj,B0,reduceIte,reduceEqDiff]
 refine qh (v := .int .i64 x9.Term) ((z9 (Sep.bk _ _ _ (Sep.m2 hS56))).trans rfl) ?_
 simp only [qm,qb,j8,f54,qn,Nat.reduceAdd,Nat.zero_add,Nat.add_zero,qx,ze,B0,reduceIte,reduceEqDiff]
 refine zc (us:=[.int .i64 (IntKind.wrap .i64 (x9.Term+1))]) rfl (cs':=[.int .i64 (IntKind.wrap .i64 (x9.Term+1)),.int .i64 x9.Voted,.bool x9.Stands,
   .bool x9.Leads,v21,v25]) (Sep.m2 hS56) hW rfl rfl (Nat.le_of_ble_eq_true rfl) rfl (fun h64 hS65=>?_)
 simp only [qa,quj,qd,qc,f54,qn,qb,Nat.reduceAdd,Nat.zero_add,Nat.add_zero,qx,ze,B0,reduceIte,reduceEqDiff]
 refine zc (us:=[.bool true]) rfl (cs':=[.int .i64 (IntKind.wrap .i64 (x9.Term+1)),.int .i64 x9.Voted,.bool true,.bool x9.Leads,v21,
   v25]) hS65 hW rfl rfl (Nat.le_of_ble_eq_true rfl) rfl (fun h66 hS67=>?_)
 simp only [qa,qxj,qd,qc,f51,qe,f54,qn,qb,Nat.reduceAdd,Nat.zero_add,Nat.add_zero,qx,ze,B0,reduceIte,reduceEqDiff]
 refine zc (us:=[.int .i64 v_1]) rfl (cs':=[.int .i64 (IntKind.wrap .i64 (x9.Term+1)),.int .i64 v_1,.bool true,.bool x9.Leads,v21,
   v25]) hS67 hW rfl rfl (Nat.le_of_ble_eq_true rfl) rfl (fun h68 hS69=>?_)
 simp only [qa,quy,qd,qc,f51,qe,yg,evp,B0,reduceIte,reduceEqDiff]
 refine k6 (n:=1) (f:=cI) [v_1] hS69 rfl rfl (fun v70 c71 h72 hv73 hS74=>?_)
 simp only [f54,qn,qb,Nat.reduceAdd,Nat.zero_add,Nat.add_zero,qx,ze,B0,reduceIte,reduceEqDiff]
 refine zc (us:=[v70]) (jl (SlF.one hv73)) (cs':=[.int .i64 (IntKind.wrap .i64 (x9.Term+1)),.int .i64 v_1,.bool true,.bool x9.Leads,v70,
   v25]) (Sep.m1 hS74) hW rfl (qo (SlF.one hv73) zn) (Nat.le_of_ble_eq_true rfl) rfl (fun h76 hS77=>?_)
 simp only [qa,qwo,qd,qc,f52,qn,qb,Nat.reduceAdd,Nat.zero_add,Nat.add_zero,qx,qj,B0,reduceIte,reduceEqDiff]
 refine qh (v:=pv0_0) ((z9 (Sep.bk _ _ _ (Sep.m2 hS77))).trans rfl) ?_
 simp only [f51,qe,f54,qj,B0,reduceIte,reduceEqDiff]
 refine qh (v := .agg [.int .i64 (IntKind.wrap .i64 (x9.Term+1)),.int .i64 v_1,.bool true,.bool x9.Leads,v70,v25]) ((zw (Sep.bk _ _ _ hS77)).trans rfl) ?_
 simp only [zt,B0,reduceIte,reduceEqDiff]
 refine qh (SlG.ia hv17 hx10) ?_
 simp only [ze,B0,reduceIte,reduceEqDiff]
 refine k8 (n:=6) (us:=[.int .i64 (IntKind.wrap .i64 (x9.Term+1)),.int .i64 v_1,.bool true,.bool x9.Leads,v70,v25]) (cs:=[.int .i64 x9.Term,
   .int .i64 x9.Voted,.bool x9.Stands,.bool x9.Leads,v21,v25]) (o:=0) (cs':=[.int .i64 (IntKind.wrap .i64 (x9.Term+1)),.int .i64 v_1,.bool true,.bool x9.Leads,
   v70,v25]) rfl hv17 rfl hx10 (Sep.m4 hS77) hW rfl (qo rfl (qo rfl (qo rfl (qo rfl (qo (SlF.one hv73) (qo (SlF.one hv27) zn))))))
   (Nat.le_of_ble_eq_true rfl) rfl (fun c80 h78 hv81 hS79=>?_)
 simp only [qa,q7h,qd,qc,f52,qn,qb,Nat.reduceAdd,Nat.zero_add,Nat.add_zero,qx,qj,B0,reduceIte,reduceEqDiff]
 refine qh (v:=pv0_0) ((z9 (Sep.bk _ _ _ (Sep.m3 hS79))).trans rfl) ?_
 simp only [zj,qb,SlG.plen hv81,qe,qa,B0,reduceIte,reduceEqDiff]
 obtain ⟨oc94,hX96,hk97⟩:=jm hF11
 simp only [q08]
 refine qog (σ:=Election) (fun i92 s140=>ut v_0 v_1 x9 i92 s140) (fun s fr' h'=>∃ v89 c90,
   fr' 1 = .int .i64 v_1∧fr' 2 = .ptr b1 0∧fr' 4 = .ptr b5 0∧fr' 6 = .ptr b29 0∧SlF Letter.cells 7 93 v89 s.Post c90∧Sep h' lo ([Blk1 b1 [pv0_0,v89,
   pv0_2] 31]++([Blk1 b5 [.nil,.nil,.nil] 31]++([Blk1 b29 [.int .i64 (IntKind.wrap .i64 (x9.Term+1)),.int .i64 v_1,.bool true,.bool x9.Leads,v70,
   v25] 46]++(c80++(c90++(pc0_2++(c71++(c26++(S0)))))))))) hX96 ⟨pv0_1,pc0_1,f51,f52,f53,f54,ph0_1,
   (Sep.m7 (Sep.m7 (Sep.m5 (Sep.m4 (Sep.m7 (Sep.m7 (Sep.m3 (Sep.m7 (Sep.dc (Sep.m7 hS79))))))))))⟩ (by simp only [B0,reduceIte,reduceEqDiff]) (by simp only [B0,reduceIte,
   reduceEqDiff]) (fun _ _ _ h=>h) rfl rfl (fun _ _ _ _ h=>h) (fun _ _ _ _ h=>h) (fun _ _ _ _ h=>h) (by decide) ?_ ?_
 ·rintro i92 s87 fr106 h107 hx113 ⟨v89,c90,f109,f110,f111,f112,hv91,hS108⟩ f114 f115 oc95 hF98 hr99 Q100 hN101 hB105 hK102 hR103 hE104
  unfold ut at hF98
  simp only [q39,qd,qc,f114,qe,qa,q1i,f109,qm,qb,yq,q4l,qr,B0,reduceIte,reduceEqDiff]
  refine qq (t:=(decide ((i92:Int)≠v_1))) (fun hc116=>?_) (fun hc116=>?_)
  ·rw [iteT hc116] at hF98
   simp only [q1n,j5,f110,qd0,qp,Nat.reduceAdd,Nat.zero_add,Nat.add_zero,qx,qdd,B0,reduceIte,reduceEqDiff]
   refine qec (Sep.ltk hS108) ?_
   refine q9 (v:=v89) ((z9 (Sep.bk _ _ _ hS108)).trans rfl) ?_
   simp only [qhb,qp,f109,f112,qd0,Nat.reduceAdd,Nat.zero_add,Nat.add_zero,qx,qdd,B0,reduceIte,reduceEqDiff]
   refine qec (Sep.ltk (Sep.m2 hS108)) ?_
   refine q9 (v := .int .i64 (IntKind.wrap .i64 (x9.Term+1))) ((z9 (Sep.bk _ _ _ (Sep.m2 hS108))).trans rfl) ?_
   simp only [f112,jf,qp,Nat.reduceAdd,Nat.zero_add,Nat.add_zero,qx,z8,B0,reduceIte,reduceEqDiff]
   refine q9 (v:=v25) ((z9 (Sep.bk _ _ _ (Sep.m2 hS108))).trans rfl) ?_
   obtain ⟨v117,hx118,hF119⟩:=qi hF98
   simp only [qhg,B0,reduceIte,reduceEqDiff]
   refine qrh rfl (qk (SlF.snap hv27 (Sep.m7 hS108) rfl (fun _=>rfl) (fun _=>rfl)) zd) (qd3 (fun b hb=>decide_eq_true hb) x9.Log v117 hx118) ?_
   simp only [f112,qd0,qp,Nat.reduceAdd,Nat.zero_add,Nat.add_zero,qx,qdd,B0,reduceIte,reduceEqDiff]
   refine qec (Sep.ltk (Sep.m2 hS108)) ?_
   refine q9 (v:=v25) ((z9 (Sep.bk _ _ _ (Sep.m2 hS108))).trans rfl) ?_
   simp only [que,qp,SlF.plen hv27,qbo,evp,B0,reduceIte,reduceEqDiff]
   refine q9 (v := .agg [.int .i64 (i92:Int),.int .i64 v_1,.int .i64 (IntKind.wrap .i64 (x9.Term+1)),.bool true,.int .i64 v117,
     .int .i64 (List.length x9.Log:Int),.bool false]) rfl ?_
   simp only [w3,evp,B0,reduceIte,reduceEqDiff]
   refine wb (n:=7) (f:=Letter.cells) [(Letter.mk (i92:Int) v_1 (IntKind.wrap .i64 (x9.Term+1)) true v117 (List.length x9.Log:Int) false)] hS108 rfl rfl
     (fun v121 c122 h123 hv124 hS125 hq120=>?_)
   simp only [qcs,B0,reduceIte,reduceEqDiff]
   obtain ⟨l127,hx128,hF129⟩:=qi hF119
   refine wc (f:=Letter.cells) hv91 (Sep.m5 hS125) hW (fun _=>rfl) (fun _=>rfl) (SlF.first hv124 hS125 (fun _=>rfl)) hx128 (fun v130 c131 h132 hv133 hS134=>?_)
   simp only [f110,jf,qp,Nat.reduceAdd,Nat.zero_add,Nat.add_zero,qx,qdk,B0,reduceIte,reduceEqDiff]
   refine w9 (us:=[v130]) (jl (SlF.one hv133)) (cs':=[pv0_0,v130,
     pv0_2]) (Sep.m2 hS134) hW rfl (qo (SlF.one hv133) zn) (Nat.le_of_ble_eq_true rfl) rfl (fun h136 hS137=>?_)
   simp only [zk,ql,B0,reduceIte,reduceEqDiff]
   have e138:=qf hF129
   exact hN101 _ _ _ e138.symm ⟨v130,c131,f109,f110,f111,f112,hv133,
     (Sep.m7 (Sep.m7 (Sep.m7 (Sep.m7 (Sep.m4 (Sep.m7 (Sep.m7 (Sep.m7 (Sep.dc (Sep.m2 hS137))))))))))⟩ (f114) (f115)
  rw [iteF hc116] at hF98
  simp only [qt,ql,B0,reduceIte,reduceEqDiff]
  have e139:=qf hF98
  exact hN101 _ _ _ e139.symm ⟨v89,c90,f109,f110,f111,f112,hv91,(Sep.m7 (Sep.m7 (Sep.m7 (Sep.m7 (Sep.m7 (Sep.m7 (Sep.m7 (Sep.m7 hS108))))))))⟩ (f114) (f115)
 rintro s141 fr146 h147 rfl ⟨v143,c144,f149,f150,f151,f152,hv145,hS148⟩
 dsimp only [jnO] at hk97
 unfold qdn at hk97
 simp only [q3t,qd,qc,f150,qj,B0,reduceIte,reduceEqDiff]
 refine qh (v := .agg [pv0_0,v143,pv0_2]) ((zw (Sep.bk _ _ _ hS148)).trans rfl) ?_
 obtain ⟨c153,hv154,hS155⟩:=SlG.cls (e':=(Server.mk (IntKind.wrap .i64 (x9.Term+1)) v_1 true x9.Leads [v_1] x9.Log)) (c:=c80) (os:=c71++(c26)) hv81 rfl hx10 jp
   (Server.RI (x:=(Server.mk (IntKind.wrap .i64 (x9.Term+1)) v_1 true x9.Leads [v_1] x9.Log)) hv73 hv27) (Sep.ni2 (c1:=c71) (c2:=c26) (Sep.m5 (Sep.m7 (Sep.m7 hS148))))
 have hx156:=jz (x':=(Server.mk (IntKind.wrap .i64 (x9.Term+1)) v_1 true x9.Leads [v_1] x9.Log)) hx10
 have hv157:=SlG.toN hv154
 obtain ⟨v158,hx159,hF160⟩:=qi hk97
 simp only [f149,qe,zb,B0,reduceIte,reduceEqDiff]
 refine x3 rfl (qil hW (Election.mk (List.set v_0.Servers v_1.toNat (Server.mk (IntKind.wrap .i64
   (x9.Term+1)) v_1 true x9.Leads [v_1] x9.Log)) s141.Post v_0.Led) pv0_0 c153 hv157 v143 c144 hv145 pv0_2 pc0_2 ph0_2 v_1 v158 hx159 (Sep.m2 (Sep.m5 (Sep.m5 hS155)))) ?_
 rintro _ h169 ⟨c161,c163,v165,c166,rfl,hv162,hv164,hv167,hS170⟩
 simp only [f151,ze,B0,reduceIte,reduceEqDiff]
 refine zc (us:=[pv0_0,v143,v165]) rfl (cs':=[pv0_0,v143,
   v165]) (Sep.m4 hS170) hW rfl (qo (SlN.one hv162) (qo (SlF.one hv164) (qo (SlF.one hv167) zn))) (Nat.le_of_ble_eq_true rfl) rfl (fun h171 hS172=>?_)
 simp only [qe,qa,qs,B0,reduceIte,reduceEqDiff]
 have he:=qf hF160
 subst he
 refine j7 (qk (kp (bb:=b5) (oo:=0) (v := .agg [pv0_0,v143,
   v165]) (f151) ((zw (Sep.bk _ _ _ hS172)).trans rfl)) (qk (yu (v := .bool true) (rfl)) zd)) ?_
 exact ⟨c161,v143,c163,v165,c166,by first | trivial | rfl,hv162,hv164,hv167,(Sep.m2 (Sep.m2 (Sep.m2 (Sep.dc (Sep.m3 (Sep.dc (Sep.m3 (Sep.dc (hS172)))))))))⟩
theorem qo6 {W:Nat→Bool}{h:Heap} (hW:∀ b,
  (geL h.length) b→W b=true) (last_0:Int) (long_1:Int) (l_2:List Int) (r:Bool) (hF:qg7 last_0 long_1 l_2=some r) : Ret E W 65 [.int .i64 last_0,
  .int .i64 long_1,lst cI l_2] h (fun v h'=>cut h.length h' E.sz false 9 v=some (.bool r)):=by
 refine Ret.of (fn:=x65) rfl (Run.of ?_)
 unfold qg7 at hF
 have zf0:qy [.int .i64 last_0,.int .i64 long_1,lst cI l_2] 0 = .int .i64 last_0:=rfl
 have zf1:qy [.int .i64 last_0,.int .i64 long_1,lst cI l_2] 1 = .int .i64 long_1:=rfl
 have zf2:qy [.int .i64 last_0,.int .i64 long_1,lst cI l_2] 2=lst cI l_2:=rfl
 generalize qy [.int .i64 last_0,.int .i64 long_1,lst cI l_2]=fr0 at zf0 zf1 zf2 ⊢
 have hS:Sep h (geL h.length) []:=Sep.nil h
 obtain ⟨v1,hx2,hF3⟩:=qi hF
 simp only [x65,qd,qc,qe,qa,q1y,zf0,zf2,zb,B0,reduceIte,reduceEqDiff]
 refine jg rfl (qk zx zd) (qd3 (fun b hb=>decide_eq_true hb) l_2 v1 hx2) ?_
 simp only [qm,qb,qby,qe,B0,reduceIte,reduceEqDiff]
 obtain ⟨v7,hx8,hF9⟩:=qi hF3
 refine jh 11 (fun fr' h'=>Sep h' (geL h.length) ([])∧fr' 22 = .bool v7) (fun Q4 hN5=>?_) ?_
 ·simp only [List.take_succ_cons,List.take_zero]
  simp only [qg (g:=11),B0,reduceIte,reduceEqDiff]
  refine zf (t:=(decide (v1<last_0))) (fun hg6=>?_) (fun hg6=>?_)
  ·rw [iteT hg6] at hx8
   simp only [hg6,qg (g:=11),zz,qg (g:=16),wt,qz,qb,zp,qa,ql,B0,reduceIte,reduceEqDiff]
   have e10:=qf hx8
   exact hN5 _ _ ⟨hS,by rw [←e10]; simp only [B0,reduceIte,reduceEqDiff]⟩
  ·rw [iteF hg6] at hx8
   obtain ⟨v11,hx12,hF13⟩:=qi hx8
   simp only [hg6,qg (g:=11),qv,zf0,qe,zf2,zb,B0,reduceIte,reduceEqDiff]
   refine jg rfl (qk zx zd) (qd3 (fun b hb=>decide_eq_true hb) l_2 v11 hx12) ?_
   simp only [hg6,qg (g:=11),qv,qm,qb,yi,qe,B0,reduceIte,reduceEqDiff]
   refine jh 5 (fun fr' h'=>Sep h' (geL h.length) ([])∧fr' 21 = .bool ((decide (last_0=v11))&&(decide ((List.length l_2:Int)≤long_1)))∧fr' 11 = .bool (decide
     (v1<last_0))) (fun Q14 hN15=>?_) ?_
   ·simp only [List.take_succ_cons,List.take_zero]
    simp only [qg (g:=16),B0,reduceIte,reduceEqDiff]
    refine zf (t:=(decide (last_0=v11))) (fun hg16=>?_) (fun hg16=>?_)
    ·simp only [hg16,qg (g:=16),zi,zf1,qe,zf2,zj,qb,zr,qm,qi6,hg6,qg (g:=11),qv,qz,
      zp,qa,ql,B0,reduceIte,reduceEqDiff]
     exact hN15 _ _ ⟨hS,by rw [qcb hg16]; simp only [B0,reduceIte,reduceEqDiff],by simp only [hg6,B0,reduceIte,reduceEqDiff]⟩
    ·simp only [hg16,qg (g:=16),kf,hg6,qg (g:=11),qv,qz,qb,zo,qa,ql,B0,reduceIte,reduceEqDiff]
     exact hN15 _ _ ⟨hS,by rw [qcd hg16]; simp only [B0,reduceIte,reduceEqDiff],by simp only [hg6,B0,reduceIte,reduceEqDiff]⟩
   rintro fr17 h20 ⟨hS21,f18,f19⟩
   simp only [List.drop_succ_cons,List.drop_zero]
   simp only [f19,hg6,qz,qb,zo,f18,qa,ql,B0,reduceIte,reduceEqDiff]
   have e22:=qf hF13
   exact hN5 _ _ ⟨hS21,by rw [←e22]; simp only [B0,reduceIte,reduceEqDiff]⟩
 rintro fr23 h25 ⟨hS26,f24⟩
 simp only [List.drop_succ_cons,List.drop_zero]
 simp only [f24,qe,qa,qs,B0,reduceIte,reduceEqDiff]
 have he:=qf hF9
 subst he
 simp only [qw,B0,reduceIte,reduceEqDiff]
 exact rfl
theorem qne {W:Nat→Bool}{h:Heap}{lo:Nat→Prop}{S0:List Obj} (hW:∀ b,
  lo b→W b=true) (k:Nat) (pv0:XV) (pc0:List Obj) (l_0:List Int) (ph0:SlF cI 1 3 pv0 l_0 pc0) (n_1:Int) (r:List Int) (hF:qdl k l_0 n_1=some r)
  (hS:Sep h lo (pc0++(S0))) : Ret E W 117 [pv0,.int .i64 n_1] h (fun v h'=>∃ rv0 rc0,v=rv0∧SlF cI 1 3 rv0 r rc0∧Sep h' lo (rc0++(S0))):=by
 refine Ret.of (fn:=qqb) rfl (Run.of ?_)
 unfold qdl at hF
 have zf0:qy [pv0,.int .i64 n_1] 0=pv0:=rfl
 have zf1:qy [pv0,.int .i64 n_1] 1 = .int .i64 n_1:=rfl
 generalize qy [pv0,.int .i64 n_1]=fr0 at zf0 zf1 ⊢
 simp only [qqb,qd,qc,qe,qa,qpq,qtx,B0,reduceIte,reduceEqDiff]
 obtain ⟨oc5,hX7,hk8⟩:=jm hF
 simp only [qrk]
 refine yb (σ:=Int) (fun s47=>qd5 l_0 n_1 s47) (fun s fr' h'=>fr' 0=pv0∧fr' 1 = .int .i64 n_1∧fr' 5 = .int .i64 s∧Sep h' lo (pc0++(S0))) hX7 ⟨zf0,
   zf1,rfl,hS⟩ (fun _ _ _ h=>h) ?_ ?_
 ·rintro s2 fr17 h18 ⟨f20,f21,f22,hS19⟩ oc6 hF9 hr10 Q11 hN12 hK13 hR14 hE15
  unfold qd5 at hF9
  simp only [qtj,qd,qc,f22,qe,f20,zj,qb,SlF.plen ph0,qm,kr,B0,reduceIte,reduceEqDiff]
  obtain ⟨v27,hx28,hF29⟩:=qi hF9
  refine jh 7 (fun fr' h'=>Sep h' lo (pc0++(S0))∧fr' 18 = .bool v27∧fr' 0=pv0∧fr' 1 = .int .i64 n_1∧fr' 5 = .int .i64 s2) (fun Q24 hN25=>?_) ?_
  ·simp only [List.take_succ_cons,List.take_zero]
   simp only [qg (g:=11),B0,reduceIte,reduceEqDiff]
   refine zf (t:=(decide (s2<(List.length l_0:Int)))) (fun hg26=>?_) (fun hg26=>?_)
   ·rw [iteT hg26] at hx28
    obtain ⟨x30,hx31,hF32⟩:=qi hx28
    simp only [hg26,qg (g:=11),zi,f20,qe,f22,zt,B0,reduceIte,reduceEqDiff]
    obtain ⟨b33,hb34⟩:=SlF.isrow ph0 (yo hx31)
    refine qh (SlF.ia ph0 hb34 hx31) ?_
    simp only [hg26,qg (g:=11),zi,qj,B0,reduceIte,reduceEqDiff]
    refine qh (v := .int .i64 x30) ((SlF.ld (o:=0) ph0 hS19 hb34 hx31 (fun _=>rfl) (Nat.le_of_ble_eq_true rfl)).trans rfl) ?_
    simp only [hg26,qg (g:=11),zi,f21,qe,qm,qb,kr,qz,zp,qa,ql,B0,reduceIte,reduceEqDiff]
    have e35:=qf hF32
    exact hN25 _ _ ⟨hS19,by rw [←e35]; simp only [B0,reduceIte,reduceEqDiff],f20,f21,f22⟩
   ·rw [iteF hg26] at hx28
    simp only [hg26,qg (g:=11),kf,qz,qb,zo,qa,ql,B0,reduceIte,reduceEqDiff]
    have e36:=qf hx28
    exact hN25 _ _ ⟨hS19,by rw [←e36]; simp only [B0,reduceIte,reduceEqDiff],f20,f21,f22⟩
  rintro fr37 h42 ⟨hS43,f38,f39,f40,f41⟩
  simp only [List.drop_succ_cons,List.drop_zero]
  simp only [qa,f38,qr,B0,reduceIte,reduceEqDiff]
  refine qq (t:=v27) (fun hc44=>?_) (fun hc44=>?_)
  ·rw [iteT hc44] at hF29
   simp only [qt,jq,qc,f41,qe,qm,qb,j8,qa,kh,ql,B0,reduceIte,reduceEqDiff]
   have e45:=qf hF29
   exact hN12 _ _ _ e45.symm ⟨f39,f40,rfl,hS43⟩
  rw [iteF hc44] at hF29
  simp only [kg,ka,ky,B0,reduceIte,reduceEqDiff]
  have e46:=qf hF29
  exact hK13 _ _ _ e46.symm ⟨f39,f40,f41,hS43⟩
 rintro s48 fr49 h50 rfl ⟨f52,f53,f54,hS51⟩
 dsimp only [jnO] at hk8
 unfold qf1 at hk8
 simp only [qvb,qd,qc,f54,qe,f52,zj,qb,SlF.plen ph0,qm,kr,B0,reduceIte,reduceEqDiff]
 obtain ⟨v58,hx59,hF60⟩:=qi hk8
 refine jh 7 (fun fr' h'=>Sep h' lo (pc0++(S0))∧fr' 32 = .bool v58∧fr' 0=pv0∧fr' 1 = .int .i64 n_1∧fr' 5 = .int .i64 s48) (fun Q55 hN56=>?_) ?_
 ·simp only [List.take_succ_cons,List.take_zero]
  simp only [qg (g:=25),B0,reduceIte,reduceEqDiff]
  refine zf (t:=(decide (s48<(List.length l_0:Int)))) (fun hg57=>?_) (fun hg57=>?_)
  ·rw [iteT hg57] at hx59
   obtain ⟨x61,hx62,hF63⟩:=qi hx59
   simp only [hg57,qg (g:=25),zi,f52,qe,f54,zt,B0,reduceIte,reduceEqDiff]
   obtain ⟨b64,hb65⟩:=SlF.isrow ph0 (yo hx62)
   refine qh (SlF.ia ph0 hb65 hx62) ?_
   simp only [hg57,qg (g:=25),zi,qj,B0,reduceIte,reduceEqDiff]
   refine qh (v := .int .i64 x61) ((SlF.ld (o:=0) ph0 hS51 hb65 hx62 (fun _=>rfl) (Nat.le_of_ble_eq_true rfl)).trans rfl) ?_
   simp only [hg57,qg (g:=25),zi,f53,qe,qm,qb,yi,qz,zp,qa,ql,B0,reduceIte,reduceEqDiff]
   have e66:=qf hF63
   exact hN56 _ _ ⟨hS51,by rw [←e66]; simp only [B0,reduceIte,reduceEqDiff],f52,f53,f54⟩
  ·rw [iteF hg57] at hx59
   simp only [hg57,qg (g:=25),kf,qz,qb,zo,qa,ql,B0,reduceIte,reduceEqDiff]
   have e67:=qf hx59
   exact hN56 _ _ ⟨hS51,by rw [←e67]; simp only [B0,reduceIte,reduceEqDiff],f52,f53,f54⟩
 rintro fr68 h73 ⟨hS74,f69,f70,f71,f72⟩
 simp only [List.drop_succ_cons,List.drop_zero]
 simp only [qa,qsw,f69,qr,B0,reduceIte,reduceEqDiff]
 refine qq (t:=v58) (fun hc75=>?_) (fun hc75=>?_)
 ·rw [iteT hc75] at hF60
  simp only [qd,qc,f70,qe,qa,qs,B0,reduceIte,reduceEqDiff]
  have he:=qf hF60
  subst he
  simp only [qw,B0,reduceIte,reduceEqDiff]
  exact ⟨pv0,pc0,by first | trivial | rfl,ph0,hS74⟩
 rw [iteF hc75] at hF60
 obtain ⟨l76,hx77,hF78⟩:=qi hF60
 simp only [qt,quc,qd,qc,qe,qa,qtk,f70,f72,qjl,Option.map_some,Option.map_none,B0,reduceIte,reduceEqDiff]
 obtain ⟨w79,i80,he81,hw82⟩:=SlF.win (f:=cI) (ty:=3) none (some s48) ph0 hx77 hS74
 refine qh he81 ?_
 simp only [xz,B0,reduceIte,reduceEqDiff]
 obtain ⟨l83,hx84,hF85⟩:=qi hF78
 refine we (f:=cI) SlF.nil hS74 hW (fun _=>rfl) (fun _=>rfl) (SlW.first hw82 ph0 hS74 (fun _=>rfl)) hx84 (fun v86 c87 h88 hv89 hS90=>?_)
 simp only [qe,qa,qto,qd,qc,f71,yg,evp,B0,reduceIte,reduceEqDiff]
 refine k6 (n:=1) (f:=cI) [n_1] hS90 rfl rfl (fun v92 c93 h94 hv95 hS96=>?_)
 simp only [xz,B0,reduceIte,reduceEqDiff]
 obtain ⟨l98,hx99,hF100⟩:=qi hF85
 refine we (f:=cI) hv89 (Sep.m1 hS96) hW (fun _=>rfl) (fun _=>rfl) (SlF.first hv95 hS96 (fun _=>rfl)) hx99 (fun v101 c102 h103 hv104 hS105=>?_)
 obtain ⟨l107,hx108,hF109⟩:=qi hF100
 simp only [qe,qa,qtc,qd,qc,f70,f72,qjl,Option.map_some,Option.map_none,B0,reduceIte,reduceEqDiff]
 obtain ⟨w110,i111,he112,hw113⟩:=SlF.win (f:=cI) (ty:=3) (some s48) none ph0 hx108 (Sep.m2 hS105)
 refine qh he112 ?_
 simp only [xz,B0,reduceIte,reduceEqDiff]
 obtain ⟨l114,hx115,hF116⟩:=qi hF109
 refine we (f:=cI) hv104 hS105 hW (fun _=>rfl) (fun _=>rfl) (SlW.first hw113 ph0 (Sep.m2 hS105) (fun _=>rfl)) hx115 (fun v117 c118 h119 hv120 hS121=>?_)
 simp only [qe,qa,qs,B0,reduceIte,reduceEqDiff]
 have he:=qf hF116
 subst he
 simp only [qw,B0,reduceIte,reduceEqDiff]
 exact ⟨v117,c118,by first | trivial | rfl,hv120,(Sep.dc (Sep.m1 (Sep.dc (Sep.m1 hS121))))⟩
end Go.Proofs.Ytpddolihbnfahaa.X
