/- The functions' code comes to what the plain functions say (6). -/
import Derived.Test.YtpddolihbnfahaaXBH5
set_option linter.unusedVariables false
set_option linter.unusedSimpArgs false
set_option maxRecDepth 100000
namespace Go.Proofs.Ytpddolihbnfahaa.X
open Go
open Nat (reduceEqDiff)
theorem qh4 {W:Nat→Bool}{h:Heap} (hW:∀ b,
  (geL h.length) b→W b=true) (k:Nat) (v_0:List Int) (r:Bool) (hF:uy k v_0=some r) : Ret E W 3 [lst cU8 v_0] h
  (fun v h'=>cut h.length h' E.sz false 9 v=some (.bool r)):=by
 refine Ret.of (fn:=x3) rfl (Run.of ?_)
 unfold uy at hF
 have zf0:zb [lst cU8 v_0] 0=lst cU8 v_0:=rfl
 generalize zb [lst cU8 v_0]=fr0 at zf0 ⊢
 have hS:Sep h (geL h.length) []:=Sep.nil h
 simp only [x3,qf,qd,qe,qa,q1k,zf0,zn,qb,zt,qv,xj,za,B0,reduceIte,reduceEqDiff]
 refine q8 (t:=(decide ((1048576:Int)<(List.length v_0:Int)))) (fun hc1=>?_) (fun hc1=>?_)
 ·rw [iteT hc1] at hF
  simp only [qf,qd,qe,qa,q9,B0,reduceIte,reduceEqDiff]
  have he:=qi hF
  subst he
  simp only [zl,B0,reduceIte,reduceEqDiff]
  exact rfl
 rw [iteF hc1] at hF
 obtain ⟨v2,hx3,hF4⟩:=qh hF
 simp only [zc,qz7,qf,qd,zf0,qe,qz,B0,reduceIte,reduceEqDiff]
 refine qfy rfl hS (qo ji zh) (qfu (fun b hb=>decide_eq_true hb) k v_0 v2 hx3) ?_
 rintro _ h13 ⟨v5,c6,v9,c10,rfl,hv7,hv11,hS14⟩
 refine ⟨_,qgp (qm (qh8 (SlN.free1 hv7)) (qm (qh8 (SlF.free1 hv11)) zm)),hS14,(ku (SlN.pf hv7 RL44O) (ku (SlF.pf hv11 (fun _=>rfl)) qd0)),
   fun h15 hS16=>?_⟩
 have hS17:Sep h15 (geL h.length) (c6++(c10++([]))):=by simpa only [List.append_assoc,List.nil_append] using hS16
 obtain ⟨v18,hx19,hF20⟩:=qh hF4
 simp only [qe,qb1,qb,qbt,qbu,qa,q1l,qf,qd,qz,B0,reduceIte,reduceEqDiff]
 refine qfy rfl hS17 (qo (SlN.snap hv7 _ hS17 rfl RL44O) (qo (SlF.snap hv11 (Sep.m1 hS17) rfl (fun _=>rfl) (fun _=>rfl)) zh)) (qhp
   (fun b hb=>decide_eq_true hb) k v2.1 v2.2 v18 hx19) ?_
 rintro _ h37 ⟨v21,c22,v25,c26,v29,c30,v33,c34,rfl,hv23,hv27,hv31,hv35,hS38⟩
 refine ⟨_,qgp (qm (qgn (qm (SlN.free1 hv23) (qm (SlF.free1 hv27) (qm (SlF.free1 hv31) zm)))) (qm (qh8 (SlF.free1 hv35)) (qm rfl zm))),hS38,
   (ku (SlN.pf hv23 Server.RO) (ku (SlF.pf hv27 (fun _=>rfl)) (ku (SlF.pf hv31 (fun _=>rfl)) (ku (SlF.pf hv35 (fun _=>rfl)) qd0)))),fun h39 hS40=>?_⟩
 have hS41:Sep h39 (geL h.length) (c22++(c26++(c30++(c34++(c6++(c10++([]))))))):=by simpa only [List.append_assoc,List.nil_append] using hS40
 simp only [qe,qb1,qb,qbt,qbu,qpq,jj,B0,reduceIte,reduceEqDiff]
 refine z8 hS41 (fun b42 h43 hS44=>?_)
 simp only [zg,B0,reduceIte,reduceEqDiff]
 refine qw (us:=[v21,v25,v29]) rfl (cs':=[v21,v25,
   v29]) hS44 hW rfl (qm (SlN.one hv23) (qm (SlF.one hv27) (qm (SlF.one hv31) zm))) (nle rfl) rfl (fun h46 hS47=>?_)
 simp only [qe,qa,B0,reduceIte,reduceEqDiff]
 refine jb hS47 hW (by simp only [B0,reduceIte,reduceEqDiff]) (fun h48 hS49=>?_)
 obtain ⟨v50,hx51,hF52⟩:=qh hF20
 simp only [z9,q0c,qf,qd,qe,qz,B0,reduceIte,reduceEqDiff]
 refine qfy rfl hS49 (qo (SlN.snap hv7 _ (Sep.m4 hS49) rfl RL44O) (qo (SlF.snap hv11 (Sep.m5 hS49) rfl (fun _=>rfl) (fun _=>rfl)) zh)) (qhn
   (fun b hb=>decide_eq_true hb) k v2.1 v2.2 v50 hx51) ?_
 rintro _ h69 ⟨v53,c54,v57,c58,v61,c62,v65,c66,rfl,hv55,hv59,hv63,hv67,hS70⟩
 refine ⟨_,qgp (qm (qgn (qm (SlN.free1 hv55) (qm (SlF.free1 hv59) (qm (SlF.free1 hv63) zm)))) (qm (qh8 (SlF.free1 hv67)) (qm rfl zm))),hS70,
   (ku (SlN.pf hv55 Server.RO) (ku (SlF.pf hv59 (fun _=>rfl)) (ku (SlF.pf hv63 (fun _=>rfl)) (ku (SlF.pf hv67 (fun _=>rfl)) qd0)))),fun h71 hS72=>?_⟩
 have hS73:Sep h71 (geL h.length) (c54++(c58++(c62++(c66++(c22++(c26++(c30++(c34++(c6++(c10++([]))))))))))):=by simpa only [List.append_assoc,
   List.nil_append] using hS72
 simp only [qe,qb1,qb,qbt,qbu,qpq,jj,B0,reduceIte,reduceEqDiff]
 refine z8 hS73 (fun b74 h75 hS76=>?_)
 simp only [zg,B0,reduceIte,reduceEqDiff]
 refine qw (us:=[v53,v57,v61]) rfl (cs':=[v53,v57,
   v61]) hS76 hW rfl (qm (SlN.one hv55) (qm (SlF.one hv59) (qm (SlF.one hv63) zm))) (nle rfl) rfl (fun h78 hS79=>?_)
 simp only [qe,qa,B0,reduceIte,reduceEqDiff]
 refine jb hS79 hW (by simp only [B0,reduceIte,reduceEqDiff]) (fun h80 hS81=>?_)
 simp only [z9,qw6,qf,qd,qe,qju,qb,qi1,B0,reduceIte,reduceEqDiff]
 obtain ⟨v85,hx86,hF87⟩:=qh hF52
 refine ja 5 (fun fr' h'=>Sep h' (geL h.length) (c22++(c26++(c30++(c34++(c54++(c58++(c62++([]))))))))∧fr' 53 = .bool v85∧fr' 5 = .ref [v21,v25,
   v29] 0∧fr' 6=v33∧fr' 7 = .bool v18.2.2∧fr' 8 = .ref [v53,v57,v61] 0) (fun Q82 hN83=>?_) ?_
 ·simp only [List.take_succ_cons,List.take_zero]
  simp only [qc (g:=48),B0,reduceIte,reduceEqDiff]
  refine qy (t:=(!(v18.2.2 == v50.2.2))) (fun hg84=>?_) (fun hg84=>?_)
  ·rw [iteT hg84] at hx86
   simp only [hg84,qc (g:=48),zq,qq,qb,zj,qa,qj,B0,reduceIte,reduceEqDiff]
   have e88:=qi hx86
   exact hN83 _ _ ⟨(Sep.m6 (Sep.m6 (Sep.m6 (Sep.m6 (Sep.m2 (Sep.m2 (Sep.m2 (Sep.dc (Sep.m7 (Sep.dc (Sep.m7 (Sep.dc (Sep.m3 hS81))))))))))))),by rw [←e88]; simp only [B0,
     reduceIte,reduceEqDiff],rfl,rfl,rfl,rfl⟩
  ·rw [iteF hg84] at hx86
   obtain ⟨v89,hx90,hF91⟩:=qh hx86
   simp only [hg84,qc (g:=48),qn,qe,qz,B0,reduceIte,reduceEqDiff]
   refine jp rfl (qo (SlF.snap hv35 (Sep.m7 hS81) rfl (fun _=>rfl) (fun _=>rfl)) (qo (SlF.snap hv67 (Sep.m3 hS81) rfl (fun _=>rfl) (fun _=>rfl)) zh))
     (qiz (fun b hb=>decide_eq_true hb) v18.2.1 v50.2.1 v89 hx90) ?_
   simp only [hg84,qc (g:=48),qn,js,qb,ki,qq,zi,qa,qj,B0,reduceIte,reduceEqDiff]
   have e92:=qi hF91
   exact hN83 _ _ ⟨(Sep.m6 (Sep.m6 (Sep.m6 (Sep.m6 (Sep.m2 (Sep.m2 (Sep.m2 (Sep.dc (Sep.m7 (Sep.dc (Sep.m7 (Sep.dc (Sep.m3 hS81))))))))))))),by rw [←e92]; simp only [B0,
     reduceIte,reduceEqDiff],rfl,rfl,rfl,rfl⟩
 rintro fr93 h99 ⟨hS100,f94,f95,f96,f97,f98⟩
 simp only [List.drop_succ_cons,List.drop_zero]
 simp only [f94,qe,B0,reduceIte,reduceEqDiff]
 obtain ⟨v104,hx105,hF106⟩:=qh hF87
 refine ja 5 (fun fr' h'=>Sep h' (geL h.length) (c22++(c26++(c30++(c34++([])))))∧fr' 59 = .bool v104∧fr' 5 = .ref [v21,v25,
   v29] 0∧fr' 6=v33∧fr' 7 = .bool v18.2.2) (fun Q101 hN102=>?_) ?_
 ·simp only [List.take_succ_cons,List.take_zero]
  simp only [qc (g:=54),B0,reduceIte,reduceEqDiff]
  refine qy (t:=v85) (fun hg103=>?_) (fun hg103=>?_)
  ·rw [iteT hg103] at hx105
   simp only [hg103,qc (g:=54),zq,qq,qb,zj,qa,qj,B0,reduceIte,reduceEqDiff]
   have e107:=qi hx105
   exact hN102 _ _ ⟨(Sep.m3 (Sep.m3 (Sep.m3 (Sep.m3 (Sep.dc (Sep.m4 (Sep.dc (Sep.m4 (Sep.dc (Sep.m4 hS100)))))))))),by rw [←e107]; simp only [B0,reduceIte,reduceEqDiff],
     f95,f96,f97⟩
  ·rw [iteF hg103] at hx105
   simp only [hg103,qc (g:=54),qn,f95,ql,B0,reduceIte,reduceEqDiff]
   refine qg (v := .agg [v21,v25,v29]) rfl ?_
   simp only [hg103,qc (g:=54),qn,f98,ql,B0,reduceIte,reduceEqDiff]
   refine qg (v := .agg [v53,v57,v61]) rfl ?_
   obtain ⟨v108,hx109,hF110⟩:=qh hx105
   simp only [hg103,qc (g:=54),qn,qz,B0,reduceIte,reduceEqDiff]
   refine jp rfl (qo (yq (qo (SlN.snap hv23 _ hS100 rfl Server.RO) (qo (SlF.snap hv27 (Sep.m1 hS100) rfl (fun _=>rfl) (fun _=>rfl)) (qo (SlF.snap hv31
     (Sep.m2 hS100) rfl (fun _=>rfl) (fun _=>rfl)) zh)))) (qo (yq (qo (SlN.snap hv55 _ (Sep.m4 hS100) rfl Server.RO) (qo (SlF.snap hv59
     (Sep.m5 hS100) rfl (fun _=>rfl) (fun _=>rfl)) (qo (SlF.snap hv63 (Sep.m6 hS100) rfl (fun _=>rfl) (fun _=>rfl)) zh)))) zh)) (qg2
     (fun b hb=>decide_eq_true hb) v18.1 v50.1 v108 hx109) ?_
   simp only [hg103,qc (g:=54),qn,js,qb,ki,qq,zi,qa,qj,B0,reduceIte,reduceEqDiff]
   have e111:=qi hF110
   exact hN102 _ _ ⟨(Sep.m3 (Sep.m3 (Sep.m3 (Sep.m3 (Sep.dc (Sep.m4 (Sep.dc (Sep.m4 (Sep.dc (Sep.m4 hS100)))))))))),by rw [←e111]; simp only [B0,reduceIte,reduceEqDiff],
     f95,f96,f97⟩
 rintro fr112 h117 ⟨hS118,f113,f114,f115,f116⟩
 simp only [List.drop_succ_cons,List.drop_zero]
 simp only [qa,f113,za,B0,reduceIte,reduceEqDiff]
 refine q8 (t:=v104) (fun hc119=>?_) (fun hc119=>?_)
 ·rw [iteT hc119] at hF106
  simp only [qf,qd,qe,qa,q9,B0,reduceIte,reduceEqDiff]
  have he:=qi hF106
  subst he
  simp only [zl,B0,reduceIte,reduceEqDiff]
  exact rfl
 rw [iteF hc119] at hF106
 simp only [zc,q0u,qf,qd,f116,qe,js,qb,ki,qa,q41,za,B0,reduceIte,reduceEqDiff]
 refine q8 (t:=(!v18.2.2)) (fun hc120=>?_) (fun hc120=>?_)
 ·rw [iteT hc120] at hF106
  simp only [q49,qf,qd,f115,qe,zn,qb,SlF.plen hv35,qv,yo,qa,q9,B0,reduceIte,reduceEqDiff]
  have he:=qi hF106
  subst he
  simp only [zl,B0,reduceIte,reduceEqDiff]
  exact rfl
 rw [iteF hc120] at hF106
 simp only [zc,qz5,qf,qd,f114,ql,B0,reduceIte,reduceEqDiff]
 refine qg (v := .agg [v21,v25,v29]) rfl ?_
 obtain ⟨v121,hx122,hF123⟩:=qh hF106
 simp only [qz,B0,reduceIte,reduceEqDiff]
 refine jp rfl (qo (yq (qo (SlN.snap hv23 _ hS118 rfl Server.RO) (qo (SlF.snap hv27 (Sep.m1 hS118) rfl (fun _=>rfl) (fun _=>rfl)) (qo (SlF.snap hv31
   (Sep.m2 hS118) rfl (fun _=>rfl) (fun _=>rfl)) zh)))) zh) (qhm (fun b hb=>decide_eq_true hb) v18.1 v121 hx122) ?_
 simp only [js,qb,ki,qa,za,B0,reduceIte,reduceEqDiff]
 refine q8 (t:=(!v121)) (fun hc124=>?_) (fun hc124=>?_)
 ·rw [iteT hc124] at hF123
  simp only [qf,qd,qe,qa,q9,B0,reduceIte,reduceEqDiff]
  have he:=qi hF123
  subst he
  simp only [zl,B0,reduceIte,reduceEqDiff]
  exact rfl
 rw [iteF hc124] at hF123
 simp only [zc,qz8,qf,qd,f114,qp,qb,Nat.reduceAdd,Nat.zero_add,Nat.add_zero,qr,ql,B0,reduceIte,reduceEqDiff]
 refine qg (v:=v29) rfl ?_
 simp only [zn,qb,SlF.plen hv31,qe,qa,B0,reduceIte,reduceEqDiff]
 obtain ⟨oc127,hX129,hk130⟩:=kd hF123
 simp only [qyx]
 refine qcd (σ:=Unit) (fun i125 _=>xl v18 i125 ) (fun s fr' h'=>fr' 5 = .ref [v21,v25,
   v29] 0∧fr' 69=v29∧Sep h' (geL h.length) (c22++(c26++(c30++([]))))) hX129 ⟨f114,rfl,(Sep.m2 (Sep.m2 (Sep.m2 (Sep.dc (Sep.m3 hS118)))))⟩ (by simp only [B0,
   reduceIte,reduceEqDiff]) (by simp only [B0,reduceIte,
   reduceEqDiff]) (fun _ _ _ h=>h) rfl rfl (fun _ _ _ _ h=>h) (fun _ _ _ _ h=>h) (fun _ _ _ _ h=>h) (by decide) ?_ ?_
 ·rintro i125 _ fr139 h140 hx144 ⟨f142,f143,hS141⟩ f145 f146 oc128 hF131 hr132 Q133 hN134 hB138 hK135 hR136 hE137
  unfold xl at hF131
  obtain ⟨x147,hx148,hF149⟩:=qh hF131
  simp only [qyf,qf,qd,f145,qe,f143,jg,B0,reduceIte,reduceEqDiff]
  obtain ⟨b150,hb151⟩:=SlF.isrow hv31 (wv hx148)
  refine qg (SlF.ia hv31 hb151 hx148) ?_
  simp only [ql,B0,reduceIte,reduceEqDiff]
  refine qg (v := .agg [.int .i64 x147.Term,.int .i64 x147.Leader]) ((SlF.lds (o:=0) hv31 (Sep.m2 hS141) hb151 hx148 (fun _=>rfl) (nle rfl)).trans rfl) ?_
  simp only [jj,B0,reduceIte,reduceEqDiff]
  refine z8 hS141 (fun b152 h153 hS154=>?_)
  simp only [qe,zg,B0,reduceIte,reduceEqDiff]
  refine qw (us:=[.int .i64 x147.Term,.int .i64 x147.Leader]) rfl (cs':=[.int .i64 x147.Term,
    .int .i64 x147.Leader]) hS154 hW rfl rfl (nle rfl) rfl (fun h156 hS157=>?_)
  simp only [qa,B0,reduceIte,reduceEqDiff]
  refine jb hS157 hW (by simp only [B0,reduceIte,reduceEqDiff]) (fun h158 hS159=>?_)
  simp only [z9,qxm,qf,qd,f142,qp,qb,Nat.reduceAdd,Nat.zero_add,Nat.add_zero,qr,ql,B0,reduceIte,reduceEqDiff]
  refine qg (v:=v29) rfl ?_
  obtain ⟨l160,hx161,hF162⟩:=qh hF149
  simp only [qe,qgr,Option.map_some,Option.map_none,B0,reduceIte,reduceEqDiff]
  obtain ⟨w163,i164,he165,hw166⟩:=SlF.win (f:=Vote.cells) (ty:=39) none (some (i125:Int)) hv31 hx161 (Sep.m2 hS159)
  refine qg he165 ?_
  simp only [zn,qb,SlW.plen hw166 hv31,qe,qa,B0,reduceIte,reduceEqDiff]
  obtain ⟨oc169,hX171,hk172⟩:=kd hF162
  simp only [q4v]
  refine qcd (σ:=Unit) (fun i167 _=>xm x147 l160 i167 ) (fun s fr' h'=>fr' 5 = .ref [v21,v25,v29] 0∧fr' 12 = .ref [.int .i64 x147.Term,
    .int .i64 x147.Leader] 0∧fr' 69=v29∧fr' 70 = .int .i64 (List.length v18.1.Led:Int)∧fr' 71 = .int .i64 (i125:Int)∧fr' 79=w163∧Sep h' (geL h.length)
    (c22++(c26++(c30++([]))))) hX171 ⟨f142,rfl,f143,f146,f145,rfl,(Sep.m2 (Sep.m2 (Sep.m2 hS159)))⟩ (by simp only [B0,reduceIte,reduceEqDiff]) (by simp only [B0,
    reduceIte,reduceEqDiff]) (fun _ _ _ h=>h) rfl rfl (fun _ _ _ _ h=>h) (fun _ _ _ _ h=>h) (fun _ _ _ _ h=>h) (by decide) ?_ ?_
  ·rintro i167 _ fr181 h182 hx190 ⟨f184,f185,f186,f187,f188,f189,hS183⟩ f191 f192 oc170 hF173 hr174 Q175 hN176 hB180 hK177 hR178 hE179
   unfold xm at hF173
   obtain ⟨x193,hx194,hF195⟩:=qh hF173
   have hx196:=SlW.get hw166 hx194
   simp only [q3i,qf,qd,f189,f191,jg,B0,reduceIte,reduceEqDiff]
   refine qg (SlW.ia hw166 hv31 hb151 hx194) ?_
   simp only [ql,B0,reduceIte,reduceEqDiff]
   refine qg (v := .agg [.int .i64 x193.Term,.int .i64 x193.Leader]) ((SlF.lds (o:=0) hv31 (Sep.m2 hS183) hb151 hx196 (fun _=>rfl) (nle rfl)).trans rfl) ?_
   simp only [jj,B0,reduceIte,reduceEqDiff]
   refine z8 hS183 (fun b197 h198 hS199=>?_)
   simp only [zg,B0,reduceIte,reduceEqDiff]
   refine qw (us:=[.int .i64 x193.Term,.int .i64 x193.Leader]) rfl (cs':=[.int .i64 x193.Term,
     .int .i64 x193.Leader]) hS199 hW rfl rfl (nle rfl) rfl (fun h201 hS202=>?_)
   simp only [qa,B0,reduceIte,reduceEqDiff]
   refine jb hS202 hW (by simp only [B0,reduceIte,reduceEqDiff]) (fun h203 hS204=>?_)
   simp only [z9,q4x,qf,qd,qp,qb,Nat.reduceAdd,Nat.zero_add,Nat.add_zero,qr,ql,B0,reduceIte,reduceEqDiff]
   refine qg (v := .int .i64 x193.Term) rfl ?_
   simp only [f185,qp,qb,Nat.reduceAdd,Nat.zero_add,Nat.add_zero,qr,ql,B0,reduceIte,reduceEqDiff]
   refine qg (v := .int .i64 x147.Term) rfl ?_
   simp only [qv,qb,yo,qa,za,B0,reduceIte,reduceEqDiff]
   refine q8 (t:=(decide (x193.Term=x147.Term))) (fun hc205=>?_) (fun hc205=>?_)
   ·rw [iteT hc205] at hF195
    simp only [qf,qd,qe,qa,q9,B0,reduceIte,reduceEqDiff]
    have e206:=qi hF195
    subst e206
    have ho207:=hr174 _ rfl
    have hk208:=hk172
    rw [ho207] at hk208
    dsimp only [jnO] at hk208
    apply hR178
    have e209:=qi hk208
    subst e209
    have ho210:=hr132 _ rfl
    have hk211:=hk130
    rw [ho210] at hk211
    dsimp only [jnO] at hk211
    apply hR136
    have he:=qi hk211
    subst he
    simp only [zl,B0,reduceIte,reduceEqDiff]
    exact rfl
   rw [iteF hc205] at hF195
   simp only [zc,qj,B0,reduceIte,reduceEqDiff]
   have e212:=qi hF195
   exact hN176 _ _ _ e212.symm ⟨f184,f185,f186,f187,f188,f189,(Sep.m2 (Sep.m2 (Sep.m2 hS204)))⟩ (f191) (f192)
  rintro _ fr214 h215 rfl ⟨f217,f218,f219,f220,f221,f222,hS216⟩
  dsimp only [jnO] at hk172
  unfold qb3 at hk172
  simp only [q31,qf,qd,f217,ql,B0,reduceIte,reduceEqDiff]
  refine qg (v := .agg [v21,v25,v29]) rfl ?_
  simp only [f218,qp,qb,Nat.reduceAdd,Nat.zero_add,Nat.add_zero,qr,ql,B0,reduceIte,reduceEqDiff]
  refine qg (v := .int .i64 x147.Term) rfl ?_
  obtain ⟨v223,hx224,hF225⟩:=qh hk172
  simp only [qz,B0,reduceIte,reduceEqDiff]
  refine jp rfl (qo (yq (qo (SlN.snap hv23 _ hS216 rfl Server.RO) (qo (SlF.snap hv27 (Sep.m1 hS216) rfl (fun _=>rfl) (fun _=>rfl)) (qo (SlF.snap hv31
    (Sep.m2 hS216) rfl (fun _=>rfl) (fun _=>rfl)) zh)))) (qo zf zh)) (qf3 (fun b hb=>decide_eq_true hb) v18.1 x147.Term v223 hx224) ?_
  simp only [qe,qb1,qb,qbt,qbu,qa,q45,qf,qd,f217,ql,B0,reduceIte,reduceEqDiff]
  refine qg (v := .agg [v21,v25,v29]) rfl ?_
  simp only [f218,qp,qb,Nat.reduceAdd,Nat.zero_add,Nat.add_zero,qr,ql,B0,reduceIte,reduceEqDiff]
  refine qg (v := .int .i64 x147.Leader) rfl ?_
  obtain ⟨v226,hx227,hF228⟩:=qh hF225
  simp only [qz,B0,reduceIte,reduceEqDiff]
  refine jp rfl (qo (yq (qo (SlN.snap hv23 _ hS216 rfl Server.RO) (qo (SlF.snap hv27 (Sep.m1 hS216) rfl (fun _=>rfl) (fun _=>rfl)) (qo (SlF.snap hv31
    (Sep.m2 hS216) rfl (fun _=>rfl) (fun _=>rfl)) zh)))) (qo zf zh)) (qj4 (fun b hb=>decide_eq_true hb) v18.1 x147.Leader v226 hx227) ?_
  simp only [qe,qb1,qb,qbt,qbu,qa,q3w,qf,jr,zw,qk,qh9,ki,B0,reduceIte,reduceEqDiff]
  refine qbv 5 (fun fr' h'=>Sep h' (geL h.length) (c22++(c26++(c30++([]))))∧fr' 112 = .bool ((!v223.2)||(decide (v223.1≠x147.Leader)))∧fr' 5 = .ref [v21,v25,
    v29] 0∧fr' 12 = .ref [.int .i64 x147.Term,
    .int .i64 x147.Leader] 0∧fr' 15 = .int .i64 v223.1∧fr' 17 = .bool v226.1∧fr' 18 = .bool v226.2∧fr' 69=v29∧fr' 70 = .int .i64
    (List.length v18.1.Led:Int)∧fr' 71 = .int .i64 (i125:Int)) rfl (fun Q229 hN230=>?_) ?_
  ·simp only [List.take_succ_cons,List.take_zero]
   simp only [qx (g:=107),B0,reduceIte,reduceEqDiff]
   refine kj (t:=(!v223.2)) (fun hg231=>?_) (fun hg231=>?_)
   ·simp only [hg231,qx (g:=107),w7,j8,qk,zj,zd,qj,B0,reduceIte,reduceEqDiff]
    exact hN230 _ _ ⟨(Sep.m2 (Sep.m2 (Sep.m2 hS216))),by rw [orT hg231]; simp only [B0,reduceIte,reduceEqDiff],f217,f218,rfl,rfl,rfl,f219,f220,f221⟩
   ·simp only [hg231,qx (g:=107),zy,zw,qk,f218,zx,Nat.reduceAdd,Nat.zero_add,Nat.add_zero,qr,zv,B0,reduceIte,
     reduceEqDiff]
    refine qu (v := .int .i64 x147.Leader) rfl ?_
    simp only [hg231,qx (g:=107),zy,xw,qk,qc6,j8,zi,zd,qj,B0,reduceIte,reduceEqDiff]
    exact hN230 _ _ ⟨(Sep.m2 (Sep.m2 (Sep.m2 hS216))),by rw [orF hg231]; simp only [B0,reduceIte,reduceEqDiff],f217,f218,rfl,rfl,rfl,f219,f220,f221⟩
  rintro fr232 h242 ⟨hS243,f233,f234,f235,f236,f237,f238,f239,f240,f241⟩
  simp only [List.drop_succ_cons,List.drop_zero]
  simp only [f233,zw,qk,B0,reduceIte,reduceEqDiff]
  refine qbv 3 (fun fr' h'=>Sep h' (geL h.length) (c22++(c26++(c30++([]))))∧fr' 116 = .bool (((!v223.2)||(decide (v223.1≠x147.Leader))) ||
    (!v226.2))∧fr' 5 = .ref [v21,v25,v29] 0∧fr' 12 = .ref [.int .i64 x147.Term,
    .int .i64 x147.Leader] 0∧fr' 15 = .int .i64 v223.1∧fr' 17 = .bool v226.1∧fr' 69=v29∧fr' 70 = .int .i64 (List.length v18.1.Led:Int)∧fr' 71 = .int .i64
    (i125:Int)) rfl (fun Q244 hN245=>?_) ?_
  ·simp only [List.take_succ_cons,List.take_zero]
   simp only [qx (g:=113),B0,reduceIte,reduceEqDiff]
   refine kj (t:=((!v223.2)||(decide (v223.1≠x147.Leader)))) (fun hg246=>?_) (fun hg246=>?_)
   ·simp only [hg246,qx (g:=113),w7,j8,qk,zj,zd,qj,B0,reduceIte,reduceEqDiff]
    exact hN245 _ _ ⟨(Sep.m2 (Sep.m2 (Sep.m2 hS243))),by rw [orT hg246]; simp only [B0,reduceIte,reduceEqDiff],f234,f235,f236,f237,f239,f240,f241⟩
   ·simp only [hg246,qx (g:=113),zy,f238,zw,qk,qh9,ki,j8,zi,zd,qj,B0,reduceIte,reduceEqDiff]
    exact hN245 _ _ ⟨(Sep.m2 (Sep.m2 (Sep.m2 hS243))),by rw [orF hg246]; simp only [B0,reduceIte,reduceEqDiff],f234,f235,f236,f237,f239,f240,f241⟩
  rintro fr247 h256 ⟨hS257,f248,f249,f250,f251,f252,f253,f254,f255⟩
  simp only [List.drop_succ_cons,List.drop_zero]
  simp only [f248,zw,qk,B0,reduceIte,reduceEqDiff]
  refine qbv 3 (fun fr' h'=>Sep h' (geL h.length) (c22++(c26++(c30++([]))))∧fr' 120 = .bool ((((!v223.2)||(decide (v223.1≠x147.Leader)))||(!v226.2)) ||
    (!v226.1))∧fr' 5 = .ref [v21,v25,v29] 0∧fr' 12 = .ref [.int .i64 x147.Term,
    .int .i64 x147.Leader] 0∧fr' 15 = .int .i64 v223.1∧fr' 69=v29∧fr' 70 = .int .i64 (List.length v18.1.Led:Int)∧fr' 71 = .int .i64 (i125:Int)) rfl
    (fun Q258 hN259=>?_) ?_
  ·simp only [List.take_succ_cons,List.take_zero]
   simp only [qx (g:=117),B0,reduceIte,reduceEqDiff]
   refine kj (t:=(((!v223.2)||(decide (v223.1≠x147.Leader)))||(!v226.2))) (fun hg260=>?_) (fun hg260=>?_)
   ·simp only [hg260,qx (g:=117),w7,j8,qk,zj,zd,qj,B0,reduceIte,reduceEqDiff]
    exact hN259 _ _ ⟨(Sep.m2 (Sep.m2 (Sep.m2 hS257))),by rw [orT hg260]; simp only [B0,reduceIte,reduceEqDiff],f249,f250,f251,f253,f254,f255⟩
   ·simp only [hg260,qx (g:=117),zy,f252,zw,qk,qh9,ki,j8,zi,zd,qj,B0,reduceIte,reduceEqDiff]
    exact hN259 _ _ ⟨(Sep.m2 (Sep.m2 (Sep.m2 hS257))),by rw [orF hg260]; simp only [B0,reduceIte,reduceEqDiff],f249,f250,f251,f253,f254,f255⟩
  rintro fr261 h269 ⟨hS270,f262,f263,f264,f265,f266,f267,f268⟩
  simp only [List.drop_succ_cons,List.drop_zero]
  simp only [f262,zw,qk,B0,reduceIte,reduceEqDiff]
  obtain ⟨v274,hx275,hF276⟩:=qh hF228
  refine qbv 10 (fun fr' h'=>Sep h' (geL h.length) (c22++(c26++(c30++([]))))∧fr' 131 = .bool v274∧fr' 5 = .ref [v21,v25,
    v29] 0∧fr' 69=v29∧fr' 70 = .int .i64 (List.length v18.1.Led:Int)∧fr' 71 = .int .i64 (i125:Int)) rfl (fun Q271 hN272=>?_) ?_
  ·simp only [List.take_succ_cons,List.take_zero]
   simp only [qx (g:=121),B0,reduceIte,reduceEqDiff]
   refine kj (t:=((((!v223.2)||(decide (v223.1≠x147.Leader)))||(!v226.2))||(!v226.1))) (fun hg273=>?_) (fun hg273=>?_)
   ·rw [iteT hg273] at hx275
    simp only [hg273,qx (g:=121),w7,j8,qk,zj,zd,qj,B0,reduceIte,reduceEqDiff]
    have e277:=qi hx275
    exact hN272 _ _ ⟨(Sep.m2 (Sep.m2 (Sep.m2 hS270))),by rw [←e277]; simp only [B0,reduceIte,reduceEqDiff],f263,f266,f267,f268⟩
   ·rw [iteF hg273] at hx275
    simp only [hg273,qx (g:=121),zy,f263,zx,qk,Nat.reduceAdd,Nat.zero_add,Nat.add_zero,qr,zv,B0,reduceIte,reduceEqDiff]
    refine qu (v:=v21) rfl ?_
    obtain ⟨x278,hx279,hF280⟩:=qh hx275
    simp only [hg273,qx (g:=121),zy,f265,zw,qk,qdg,B0,reduceIte,reduceEqDiff]
    obtain ⟨b281,hb282⟩:=SlN.isrow hv23 (wv hx279)
    refine qu (SlN.ia hv23 hb282 hx279) ?_
    obtain ⟨c283,cs284,os285,hv286,hR287,hS288⟩:=SlG.opn (SlN.toG hv23 hb282 Server.RO.len) hx279 jm Server.RO.len hS270
    obtain ⟨v290,c291,v294,c295,hv292,hv296,rfl,rfl⟩:=hR287
    have hS289:=Sep.no2 hS288
    simp only [hg273,qx (g:=121),zy,zx,qk,Nat.reduceAdd,Nat.zero_add,Nat.add_zero,qs,zv,B0,reduceIte,reduceEqDiff]
    refine qu (v := .int .i64 x278.Term) ((SlG.ld (o:=0) hv286 rfl hx279 hS289 (nle rfl)).trans rfl) ?_
    simp only [hg273,qx (g:=121),zy,f264,zx,qk,Nat.reduceAdd,Nat.zero_add,Nat.add_zero,qr,zv,B0,reduceIte,reduceEqDiff]
    refine qu (v := .int .i64 x147.Term) rfl ?_
    simp only [hg273,qx (g:=121),zy,xw,qk,qdj,j8,zi,zd,qj,B0,reduceIte,reduceEqDiff]
    have e298:=qi hF280
    exact hN272 _ _ ⟨(Sep.m2 (Sep.m2 (Sep.m2 hS270))),by rw [←e298]; simp only [B0,reduceIte,reduceEqDiff],f263,f266,f267,f268⟩
  rintro fr299 h305 ⟨hS306,f300,f301,f302,f303,f304⟩
  simp only [List.drop_succ_cons,List.drop_zero]
  simp only [zd,f300,za,B0,reduceIte,reduceEqDiff]
  refine q8 (t:=v274) (fun hc307=>?_) (fun hc307=>?_)
  ·rw [iteT hc307] at hF276
   simp only [qf,qd,qe,qa,q9,B0,reduceIte,reduceEqDiff]
   have e308:=qi hF276
   subst e308
   have ho309:=hr132 _ rfl
   have hk310:=hk130
   rw [ho309] at hk310
   dsimp only [jnO] at hk310
   apply hR136
   have he:=qi hk310
   subst he
   simp only [zl,B0,reduceIte,reduceEqDiff]
   exact rfl
  rw [iteF hc307] at hF276
  simp only [zc,qj,B0,reduceIte,reduceEqDiff]
  have e311:=qi hF276
  exact hN134 _ _ _ e311.symm ⟨f301,f302,(Sep.m2 (Sep.m2 (Sep.m2 hS306)))⟩ (f304) (f303)
 rintro _ fr314 h315 rfl ⟨f317,f318,hS316⟩
 dsimp only [jnO] at hk130
 unfold qb5 at hk130
 simp only [qzv,qf,qd,f317,qp,qb,Nat.reduceAdd,Nat.zero_add,Nat.add_zero,qr,ql,B0,reduceIte,reduceEqDiff]
 refine qg (v:=v21) rfl ?_
 simp only [zn,qb,SlN.len hv23,qe,qa,B0,reduceIte,reduceEqDiff]
 obtain ⟨oc327,hX329,hk330⟩:=kd hk130
 simp only [qy9]
 refine qcd (σ:=(List Server)) (fun i325 s414=>xk v18 i325 s414) (fun s fr' h'=>∃ c323,fr' 5 = .ref [v21,v25,
   v29] 0∧fr' 134=v21∧SlN Server.R 6 46 v21 s c323∧Sep h' (geL h.length) (c323++(c26++(c30++([]))))) hX329 ⟨c22,f317,rfl,hv23,
   (Sep.m2 (Sep.m2 (Sep.m2 hS316)))⟩ (by simp only [B0,reduceIte,reduceEqDiff]) (by simp only [B0,reduceIte,
   reduceEqDiff]) (fun _ _ _ h=>h) rfl rfl (fun _ _ _ _ h=>h) (fun _ _ _ _ h=>h) (fun _ _ _ _ h=>h) (by decide) ?_ ?_
 ·rintro i325 s322 fr339 h340 hx344 ⟨c323,f342,f343,hv324,hS341⟩ f345 f346 oc328 hF331 hr332 Q333 hN334 hB338 hK335 hR336 hE337
  unfold xk at hF331
  obtain ⟨x347,hx348,hF349⟩:=qh hF331
  simp only [qxb,qf,qd,f345,qe,f343,jg,B0,reduceIte,reduceEqDiff]
  obtain ⟨b350,hb351⟩:=SlN.isrow hv324 (wv hx348)
  refine qg (SlN.ia hv324 hb351 hx348) ?_
  obtain ⟨c352,cs353,os354,hv355,hR356,hS357⟩:=SlG.opn (SlN.toG hv324 hb351 Server.RO.len) hx348 jm Server.RO.len hS341
  obtain ⟨v359,c360,v363,c364,hv361,hv365,rfl,rfl⟩:=hR356
  have hS358:=Sep.no2 hS357
  simp only [ql,B0,reduceIte,reduceEqDiff]
  refine qg (v := .agg [.int .i64 x347.Term,.int .i64 x347.Voted,.bool x347.Stands,.bool x347.Leads,v359,
    v363]) ((SlG.lds (o:=0) hv355 rfl hx348 hS358 (nle rfl)).trans rfl) ?_
  simp only [jj,B0,reduceIte,reduceEqDiff]
  refine z8 hS358 (fun b367 h368 hS369=>?_)
  simp only [qe,zg,B0,reduceIte,reduceEqDiff]
  refine qw (us:=[.int .i64 x347.Term,.int .i64 x347.Voted,.bool x347.Stands,.bool x347.Leads,v359,v363]) rfl (cs':=[.int .i64 x347.Term,.int .i64 x347.Voted,
    .bool x347.Stands,.bool x347.Leads,v359,
    v363]) hS369 hW rfl (qm rfl (qm rfl (qm rfl (qm rfl (qm (SlF.one hv361) (qm (SlF.one hv365) zm)))))) (nle rfl) rfl (fun h371 hS372=>?_)
  simp only [qa,B0,reduceIte,reduceEqDiff]
  refine jb hS372 hW (by simp only [B0,reduceIte,reduceEqDiff]) (fun h373 hS374=>?_)
  simp only [z9,qyt,qf,qd,f342,ql,B0,reduceIte,reduceEqDiff]
  refine qg (v := .agg [v21,v25,v29]) rfl ?_
  simp only [qp,qb,Nat.reduceAdd,Nat.zero_add,Nat.add_zero,qr,ql,B0,reduceIte,reduceEqDiff]
  refine qg (v := .int .i64 x347.Term) rfl ?_
  obtain ⟨c375,hv376,hS377⟩:=SlG.cls0 (c:=c352) (os:=c360++(c364)) hv355 rfl hx348 jm (Server.RI (x:=x347) hv361 hv365) (Sep.ni2 (c1:=c360) (c2:=c364)
    (Sep.m2 (Sep.m2 (Sep.m2 hS374))))
  have hv378:=SlG.toN hv376
  obtain ⟨v379,hx380,hF381⟩:=qh hF349
  simp only [qz,B0,reduceIte,reduceEqDiff]
  refine jp rfl (qo (yq (qo (SlN.snap hv378 _ hS377 rfl Server.RO) (qo (SlF.snap hv27 (Sep.m1 hS377) rfl (fun _=>rfl) (fun _=>rfl)) (qo (SlF.snap hv31
    (Sep.m2 hS377) rfl (fun _=>rfl) (fun _=>rfl)) zh)))) (qo zf zh)) (qf3 (fun b hb=>decide_eq_true hb)
    (Election.mk s322 v18.1.Post v18.1.Led) x347.Term v379 hx380) ?_
  simp only [qe,qb1,qb,qbt,qbu,qa,qx4,qf,qd,qp,Nat.reduceAdd,Nat.zero_add,Nat.add_zero,qr,ql,B0,reduceIte,
    reduceEqDiff]
  refine qg (v := .bool x347.Leads) rfl ?_
  simp only [qe,B0,reduceIte,reduceEqDiff]
  refine ja 8 (fun fr' h'=>Sep h' (geL h.length) (c352++(c26++(c30++(c360++(c364++([]))))))∧fr' 158 = .bool (x347.Leads&&((!v379.2)||(decide (v379.1 ≠
    (i325:Int)))))∧fr' 5 = .ref [v21,v25,
    v29] 0∧fr' 134=v21∧fr' 135 = .int .i64 (List.length v18.1.Servers:Int)∧fr' 136 = .int .i64 (i325:Int)) (fun Q382 hN383=>?_) ?_
  ·simp only [List.take_succ_cons,List.take_zero]
   simp only [qc (g:=150),B0,reduceIte,reduceEqDiff]
   refine qy (t:=x347.Leads) (fun hg384=>?_) (fun hg384=>?_)
   ·simp only [hg384,qc (g:=150),ze,qe,js,qb,ki,B0,reduceIte,reduceEqDiff]
    refine ja 4 (fun fr' h'=>Sep h' (geL h.length) (c352++(c26++(c30++(c360++(c364++([]))))))∧fr' 157 = .bool ((!v379.2)||(decide (v379.1 ≠
      (i325:Int))))∧fr' 5 = .ref [v21,v25,
      v29] 0∧fr' 134=v21∧fr' 135 = .int .i64 (List.length v18.1.Servers:Int)∧fr' 136 = .int .i64 (i325:Int)∧fr' 150 = .bool x347.Leads)
      (fun Q385 hN386=>?_) ?_
    ·simp only [List.take_succ_cons,List.take_zero]
     simp only [qc (g:=153),B0,reduceIte,reduceEqDiff]
     refine qy (t:=(!v379.2)) (fun hg387=>?_) (fun hg387=>?_)
     ·simp only [hg387,qc (g:=153),zq,hg384,qc (g:=150),ze,qq,qb,zj,qa,qj,B0,reduceIte,
       reduceEqDiff]
      exact hN386 _ _ ⟨(Sep.m4 (Sep.m4 (Sep.m4 (Sep.m2 (Sep.m2 hS374))))),by rw [orT hg387]; simp only [B0,reduceIte,reduceEqDiff],f342,f343,f346,f345,
        by simp only [hg384,B0,reduceIte,reduceEqDiff]⟩
     ·simp only [hg387,qc (g:=153),qn,qe,qv,qb,qc6,hg384,qc (g:=150),ze,qq,zi,qa,
       qj,B0,reduceIte,reduceEqDiff]
      exact hN386 _ _ ⟨(Sep.m4 (Sep.m4 (Sep.m4 (Sep.m2 (Sep.m2 hS374))))),by rw [orF hg387]; simp only [B0,reduceIte,reduceEqDiff],f342,f343,f346,f345,
        by simp only [hg384,B0,reduceIte,reduceEqDiff]⟩
    rintro fr388 h395 ⟨hS396,f389,f390,f391,f392,f393,f394⟩
    simp only [List.drop_succ_cons,List.drop_zero]
    simp only [f394,hg384,qq,qb,zj,f389,qa,qj,B0,reduceIte,reduceEqDiff]
    exact hN383 _ _ ⟨(Sep.m4 (Sep.m4 (Sep.m4 (Sep.m4 (Sep.m4 hS396))))),by rw [qba hg384]; simp only [B0,reduceIte,reduceEqDiff],f390,f391,f392,f393⟩
   ·simp only [hg384,qc (g:=150),jv,qc (g:=153),y9,qq,qb,zi,qa,qj,B0,reduceIte,reduceEqDiff]
    exact hN383 _ _ ⟨(Sep.m4 (Sep.m4 (Sep.m4 (Sep.m2 (Sep.m2 hS374))))),by rw [qbf hg384]; simp only [B0,reduceIte,reduceEqDiff],f342,f343,f346,f345⟩
  rintro fr397 h403 ⟨hS404,f398,f399,f400,f401,f402⟩
  simp only [List.drop_succ_cons,List.drop_zero]
  simp only [qa,f398,za,B0,reduceIte,reduceEqDiff]
  refine q8 (t:=(x347.Leads&&((!v379.2)||(decide (v379.1≠(i325:Int)))))) (fun hc405=>?_) (fun hc405=>?_)
  ·rw [iteT hc405] at hF381
   simp only [qf,qd,qe,qa,q9,B0,reduceIte,reduceEqDiff]
   have e406:=qi hF381
   subst e406
   have ho407:=hr332 _ rfl
   have hk408:=hk330
   rw [ho407] at hk408
   dsimp only [jnO] at hk408
   apply hR336
   have he:=qi hk408
   subst he
   simp only [zl,B0,reduceIte,reduceEqDiff]
   exact rfl
  rw [iteF hc405] at hF381
  simp only [zc,qj,B0,reduceIte,reduceEqDiff]
  obtain ⟨c409,hv410,hS411⟩:=SlG.cls0 (c:=c352) (os:=c360++(c364)) hv355 rfl hx348 jm (Server.RI (x:=x347) hv361 hv365) (Sep.ni2 (c1:=c360) (c2:=c364)
    (Sep.m2 (Sep.m4 (Sep.m4 hS404))))
  have hv412:=SlG.toN hv410
  have e413:=qi hF381
  exact hN334 _ _ _ e413.symm ⟨c409,f399,f400,hv412,(Sep.m2 (Sep.m2 (Sep.m2 hS411)))⟩ (f402) (f401)
 rintro s415 fr418 h419 rfl ⟨c416,f421,f422,hv417,hS420⟩
 dsimp only [jnO] at hk330
 unfold qd9 at hk330
 simp only [qf,qd,qe,qa,q9,B0,reduceIte,reduceEqDiff]
 have he:=qi hk330
 subst he
 simp only [zl,B0,reduceIte,reduceEqDiff]
 exact rfl
end Go.Proofs.Ytpddolihbnfahaa.X
