/- The functions' code comes to what the plain functions say (1). -/
import Derived.Test.YtpddolihbnfahaaXCF
import Derived.Test.YtpddolihbnfahaaXCD
set_option linter.unusedVariables false
set_option linter.unusedSimpArgs false
set_option maxRecDepth 100000
namespace Go.Proofs.Ytpddolihbnfahaa.X
open Go
open Nat (reduceEqDiff)
def Server.R:Rep Server:=fun x cs os=>∃ (v4:XV) (c4:List Obj) (v5:XV) (c5:List Obj),SlF cI 1 3 v4 x.Got c4∧SlF cI 1 3 v5 x.Log c5∧cs=[.int .i64 x.Term,
  .int .i64 x.Voted,.bool x.Stands,.bool x.Leads,v4,v5]∧c4++(c5)=os
theorem Server.RI {x:Server}{v4:XV}{c4:List Obj}(h4:SlF cI 1 3 v4 x.Got c4){v5:XV}{c5:List Obj}(h5:SlF cI 1 3 v5 x.Log c5) : Server.R x [.int .i64 x.Term,
  .int .i64 x.Voted,.bool x.Stands,.bool x.Leads,v4,v5] (c4++(c5)):=⟨v4,c4,v5,c5,h4,h5,rfl,rfl⟩
theorem Server.RO:RepOk E.sz Server.R Server.cells 6 where
 len:=fun {x cs os} H=>by
  obtain ⟨v4,c4,v5,c5,h4,h5,rfl,rfl⟩:=H
  rfl
 flen:=fun _=>rfl
 one:=fun {x cs os} H=>by
  obtain ⟨v4,c4,v5,c5,h4,h5,rfl,rfl⟩:=H
  exact (qn rfl (qn rfl (qn rfl (qn rfl (qn (SlF.one h4) (qn (SlF.one h5) zl))))))
 snap:=fun {x cs os h lo S} m H hS=>by
  obtain ⟨v4,c4,v5,c5,h4,h5,rfl,rfl⟩:=H
  have hS2:Sep h lo (c4++(c5++S)):=(by simpa only [List.append_assoc] using hS)
  exact (qj q8 (qj q8 (qj qcs (qj qcs (qj (SlF.snap h4 hS2 rfl (fun _=>rfl) (fun _=>rfl)) (qj (SlF.snap h5 (Sep.m1 hS2) rfl
    (fun _=>rfl) (fun _=>rfl)) qw))))))
 cut:=fun {x cs os h lo n0 keep S} m H hS hge=>by
  obtain ⟨v4,c4,v5,c5,h4,h5,rfl,rfl⟩:=H
  have hS2:Sep h lo (c4++(c5++S)):=(by simpa only [List.append_assoc] using hS)
  exact (qj rfl (qj rfl (qj rfl (qj rfl (qj (SlF.cut h4 hS2 hge rfl (fun _=>rfl) (fun _=>rfl)) (qj (SlF.cut h5 (Sep.m1 hS2) hge rfl (fun _=>rfl)
    (fun _=>rfl)) qw))))))
 free:=fun {x cs os} H=>by
  obtain ⟨v4,c4,v5,c5,h4,h5,rfl,rfl⟩:=H
  exact (qn rfl (qn rfl (qn rfl (qn rfl (qn (SlF.free1 h4) (qn (SlF.free1 h5) zl))))))
 pf:=fun {x cs os} H=>by
  obtain ⟨v4,c4,v5,c5,h4,h5,rfl,rfl⟩:=H
  exact (jl (SlF.pf h4 (fun _=>rfl)) (SlF.pf h5 (fun _=>rfl)))
def RL44:Rep (List Int):=fun x cs os=>∃ (v0:XV) (c0:List Obj),SlF cI 1 3 v0 x c0∧cs=[v0]∧c0=os
theorem RL44I {x:List Int}{v0:XV}{c0:List Obj}(h0:SlF cI 1 3 v0 x c0) : RL44 x [v0] (c0):=⟨v0,c0,h0,rfl,rfl⟩
theorem RL44O:RepOk E.sz RL44 (cL cI) 1 where
 len:=fun {x cs os} H=>by
  obtain ⟨v0,c0,h0,rfl,rfl⟩:=H
  rfl
 flen:=fun _=>rfl
 one:=fun {x cs os} H=>by
  obtain ⟨v0,c0,h0,rfl,rfl⟩:=H
  exact (qn (SlF.one h0) zl)
 snap:=fun {x cs os h lo S} m H hS=>by
  obtain ⟨v0,c0,h0,rfl,rfl⟩:=H
  have hS2:Sep h lo (c0++S):=(by simpa only [List.append_assoc] using hS)
  exact (qj (SlF.snap h0 hS2 rfl (fun _=>rfl) (fun _=>rfl)) qw)
 cut:=fun {x cs os h lo n0 keep S} m H hS hge=>by
  obtain ⟨v0,c0,h0,rfl,rfl⟩:=H
  have hS2:Sep h lo (c0++S):=(by simpa only [List.append_assoc] using hS)
  exact (qj (SlF.cut h0 hS2 hge rfl (fun _=>rfl) (fun _=>rfl)) qw)
 free:=fun {x cs os} H=>by
  obtain ⟨v0,c0,h0,rfl,rfl⟩:=H
  exact (qn (SlF.free1 h0) zl)
 pf:=fun {x cs os} H=>by
  obtain ⟨v0,c0,h0,rfl,rfl⟩:=H
  exact (SlF.pf h0 (fun _=>rfl))
theorem qh2 {W:Nat→Bool}{h:Heap}{lo:Nat→Prop}{S0:List Obj} (hW:∀ b,
  lo b→W b=true) (pv0:XV) (pc0:List Obj) (s_0:List Int) (ph0:SlF cI 1 3 pv0 s_0 pc0) (i_1:Int) (pv2:XV) (pc2:List Obj) (v_2:List Int)
  (ph2:SlF cI 1 3 pv2 v_2 pc2) (r:List Int × List Int) (hF:qfc s_0 i_1 v_2=some r) (hS:Sep h lo (pc0++(pc2++S0))) : Ret E W 115 [pv0,.int .i64 i_1,
  pv2] h (fun v h'=>∃ rv0 rc0 ic2,v=rv0∧SlF cI 1 3 rv0 r.1 rc0∧SlF cI 1 3 pv2 r.2 ic2∧Sep h' lo (rc0++(ic2++S0))):=q7u rfl rfl hW ph0 ph2 hF hS
theorem qdh {W:Nat→Bool}{h:Heap} (hW:∀ b,
  (geL h.length) b→W b=true) (a_0:List Int) (b_1:List Int) (r:Bool) (hF:qal a_0 b_1=some r) : Ret E W 19 [lst cI a_0,
  lst cI b_1] h (fun v h'=>cut h.length h' E.sz false 9 v=some (.bool r)):=by
 refine Ret.of (fn:=x19) rfl (Run.of ?_)
 unfold qal at hF
 have zf0:ze [lst cI a_0,lst cI b_1] 0=lst cI a_0:=rfl
 have zf1:ze [lst cI a_0,lst cI b_1] 1=lst cI b_1:=rfl
 generalize ze [lst cI a_0,lst cI b_1]=fr0 at zf0 zf1 ⊢
 have hS:Sep h (geL h.length) []:=Sep.nil h
 simp only [x19,qf,qe,qd,qa,qxb,zf0,zo,qb,zt,zf1,qu,qa7,zb,B0,reduceIte,reduceEqDiff]
 refine zc (t:=(decide ((List.length a_0:Int)≠(List.length b_1:Int)))) (fun hc1=>?_) (fun hc1=>?_)
 ·rw [iteT hc1] at hF
  simp only [qf,qe,qd,qa,qz,B0,reduceIte,reduceEqDiff]
  have he:=qi hF
  subst he
  simp only [zm,B0,reduceIte,reduceEqDiff]
  exact rfl
 rw [iteF hc1] at hF
 simp only [zf,qzf,qf,qe,zf0,qd,zo,qb,zt,qa,B0,reduceIte,reduceEqDiff]
 obtain ⟨oc4,hX6,hk7⟩:=kc hF
 simp only [q4c]
 refine yj (σ:=Unit) a_0 (fun i2 x3 _=>qcb b_1 i2 x3 ) (fun s fr' h'=>fr' 0=lst cI a_0∧fr' 1=lst cI b_1∧Sep h' (geL h.length) ([])) hX6 ⟨zf0,
   zf1,hS⟩ (by simp only [B0,reduceIte,reduceEqDiff]) (by simp only [B0,reduceIte,
   reduceEqDiff]) (fun _ _ _ h=>h) rfl rfl (fun _ _ _ _ h=>h) (fun _ _ _ _ h=>h) (fun _ _ _ _ h=>h) (by decide) ?_ ?_
 ·rintro i2 x3 _ fr16 h17 hx21 ⟨f19,f20,hS18⟩ f22 f23 oc5 hF8 hr9 Q10 hN11 hB15 hK12 hR13 hE14
  unfold qcb at hF8
  simp only [q1x,qf,qe,f22,qd,qa,qyk,jr,f19,ja,qo,qbj,B0,reduceIte,reduceEqDiff]
  refine qt (v := .ref (cI x3) 0) (yh hx21 rfl) ?_
  simp only [zz,B0,reduceIte,reduceEqDiff]
  refine qt (v := .int .i64 x3) rfl ?_
  obtain ⟨x24,hx25,hF26⟩:=qh hF8
  simp only [f20,ja,qo,qbj,B0,reduceIte,reduceEqDiff]
  refine qt (v := .ref (cI x24) 0) (k5 hx25 rfl) ?_
  simp only [zz,B0,reduceIte,reduceEqDiff]
  refine qt (v := .int .i64 x24) rfl ?_
  simp only [wx,qo,qa7,zk,zb,B0,reduceIte,reduceEqDiff]
  refine zc (t:=(decide (x3≠x24))) (fun hc27=>?_) (fun hc27=>?_)
  ·rw [iteT hc27] at hF26
   simp only [qf,qe,qd,qa,qz,B0,reduceIte,reduceEqDiff]
   have e28:=qi hF26
   subst e28
   have ho29:=hr9 _ rfl
   have hk30:=hk7
   rw [ho29] at hk30
   dsimp only [jnO] at hk30
   apply hR13
   have he:=qi hk30
   subst he
   simp only [zm,B0,reduceIte,reduceEqDiff]
   exact rfl
  rw [iteF hc27] at hF26
  simp only [zf,qk,B0,reduceIte,reduceEqDiff]
  have e31:=qi hF26
  exact hN11 _ _ _ e31.symm ⟨f19,f20,hS18⟩ (f22) (f23)
 rintro _ fr33 h34 rfl ⟨f36,f37,hS35⟩
 dsimp only [jnO] at hk7
 unfold qf3 at hk7
 simp only [qf,qe,qd,qa,qz,B0,reduceIte,reduceEqDiff]
 have he:=qi hk7
 subst he
 simp only [zm,B0,reduceIte,reduceEqDiff]
 exact rfl
theorem qdb {W:Nat→Bool}{h:Heap} (hW:∀ b,
  (geL h.length) b→W b=true) (v_0:Election) (v_1:Election) (r:Bool) (hF:ul v_0 v_1=some r) : Ret E W 11 [.agg [lst Server.cells v_0.Servers,
  lst Letter.cells v_0.Post,lst Vote.cells v_0.Led],.agg [lst Server.cells v_1.Servers,lst Letter.cells v_1.Post,
  lst Vote.cells v_1.Led]] h (fun v h'=>cut h.length h' E.sz false 9 v=some (.bool r)):=by
 refine Ret.of (fn:=x11) rfl (Run.of ?_)
 unfold ul at hF
 have zf0:ze [.agg [lst Server.cells v_0.Servers,lst Letter.cells v_0.Post,lst Vote.cells v_0.Led],.agg [lst Server.cells v_1.Servers,lst Letter.cells v_1.Post,
   lst Vote.cells v_1.Led]] 0 = .agg [lst Server.cells v_0.Servers,lst Letter.cells v_0.Post,lst Vote.cells v_0.Led]:=rfl
 have zf1:ze [.agg [lst Server.cells v_0.Servers,lst Letter.cells v_0.Post,lst Vote.cells v_0.Led],.agg [lst Server.cells v_1.Servers,lst Letter.cells v_1.Post,
   lst Vote.cells v_1.Led]] 1 = .agg [lst Server.cells v_1.Servers,lst Letter.cells v_1.Post,lst Vote.cells v_1.Led]:=rfl
 generalize ze [.agg [lst Server.cells v_0.Servers,lst Letter.cells v_0.Post,lst Vote.cells v_0.Led],.agg [lst Server.cells v_1.Servers,lst Letter.cells v_1.Post,
   lst Vote.cells v_1.Led]]=fr0 at zf0 zf1 ⊢
 have hS:Sep h (geL h.length) []:=Sep.nil h
 simp only [x11,qf,qe,j7,zf0,B0,reduceIte,reduceEqDiff]
 refine jk (cs:=[lst Server.cells v_0.Servers,lst Letter.cells v_0.Post,lst Vote.cells v_0.Led]) hS rfl rfl rfl (fun b1 h2 hS3=>?_)
 simp only [j7,zf1,B0,reduceIte,reduceEqDiff]
 refine jk (cs:=[lst Server.cells v_1.Servers,lst Letter.cells v_1.Post,lst Vote.cells v_1.Led]) hS3 rfl rfl rfl (fun b5 h6 hS7=>?_)
 simp only [qd,qa,B0,reduceIte,reduceEqDiff]
 refine zu (Sep.m1 hS7) hW (by simp only [B0,reduceIte,reduceEqDiff]) (fun h9 hS10=>?_)
 refine zu hS10 hW (by simp only [B0,reduceIte,reduceEqDiff]) (fun h11 hS12=>?_)
 simp only [zq,qqn,qf,qe,qq,qb,Nat.reduceAdd,Nat.zero_add,Nat.add_zero,qr,ql,B0,reduceIte,reduceEqDiff]
 refine qg (v:=lst Server.cells v_0.Servers) rfl ?_
 simp only [zo,qb,zt,qq,Nat.reduceAdd,Nat.zero_add,Nat.add_zero,qr,ql,B0,reduceIte,reduceEqDiff]
 refine qg (v:=lst Server.cells v_1.Servers) rfl ?_
 simp only [zo,qb,zt,qu,qa7,qd,B0,reduceIte,reduceEqDiff]
 refine zw 8 (fun fr' h'=>Sep h' (geL h.length) ([])∧fr' 25 = .bool ((decide ((List.length v_0.Servers:Int)≠(List.length v_1.Servers:Int)))||(decide
   ((List.length v_0.Post:Int)≠(List.length v_1.Post:Int))))∧fr' 2 = .ref [lst Server.cells v_0.Servers,lst Letter.cells v_0.Post,
   lst Vote.cells v_0.Led] 0∧fr' 3 = .ref [lst Server.cells v_1.Servers,lst Letter.cells v_1.Post,lst Vote.cells v_1.Led] 0) (fun Q13 hN14=>?_) ?_
 ·simp only [List.take_succ_cons,List.take_zero]
  simp only [qc (g:=17),B0,reduceIte,reduceEqDiff]
  refine qv (t:=(decide ((List.length v_0.Servers:Int)≠(List.length v_1.Servers:Int)))) (fun hg15=>?_) (fun hg15=>?_)
  ·simp only [hg15,qc (g:=17),zn,qp,qb,zh,qa,qk,B0,reduceIte,reduceEqDiff]
   exact hN14 _ _ ⟨hS12,by rw [orT hg15]; simp only [B0,reduceIte,reduceEqDiff],rfl,rfl⟩
  ·simp only [hg15,qc (g:=17),qm,qq,qb,Nat.reduceAdd,Nat.zero_add,Nat.add_zero,qr,ql,B0,reduceIte,reduceEqDiff]
   refine qg (v:=lst Letter.cells v_0.Post) rfl ?_
   simp only [hg15,qc (g:=17),qm,zo,qb,zt,qq,Nat.reduceAdd,Nat.zero_add,Nat.add_zero,qr,ql,B0,reduceIte,
     reduceEqDiff]
   refine qg (v:=lst Letter.cells v_1.Post) rfl ?_
   simp only [hg15,qc (g:=17),qm,zo,qb,zt,qu,qa7,qp,zg,qa,qk,B0,reduceIte,reduceEqDiff]
   exact hN14 _ _ ⟨hS12,by rw [orF hg15]; simp only [B0,reduceIte,reduceEqDiff],rfl,rfl⟩
 rintro fr16 h20 ⟨hS21,f17,f18,f19⟩
 simp only [List.drop_succ_cons,List.drop_zero]
 simp only [f17,qd,B0,reduceIte,reduceEqDiff]
 refine zw 8 (fun fr' h'=>Sep h' (geL h.length) ([])∧fr' 34 = .bool (((decide ((List.length v_0.Servers:Int)≠(List.length v_1.Servers:Int)))||(decide
   ((List.length v_0.Post:Int)≠(List.length v_1.Post:Int))))||(decide ((List.length v_0.Led:Int) ≠
   (List.length v_1.Led:Int))))∧fr' 2 = .ref [lst Server.cells v_0.Servers,lst Letter.cells v_0.Post,
   lst Vote.cells v_0.Led] 0∧fr' 3 = .ref [lst Server.cells v_1.Servers,lst Letter.cells v_1.Post,lst Vote.cells v_1.Led] 0) (fun Q22 hN23=>?_) ?_
 ·simp only [List.take_succ_cons,List.take_zero]
  simp only [qc (g:=26),B0,reduceIte,reduceEqDiff]
  refine qv (t:=((decide ((List.length v_0.Servers:Int)≠(List.length v_1.Servers:Int)))||(decide ((List.length v_0.Post:Int) ≠
    (List.length v_1.Post:Int))))) (fun hg24=>?_) (fun hg24=>?_)
  ·simp only [hg24,qc (g:=26),zn,qp,qb,zh,qa,qk,B0,reduceIte,reduceEqDiff]
   exact hN23 _ _ ⟨hS21,by rw [orT hg24]; simp only [B0,reduceIte,reduceEqDiff],f18,f19⟩
  ·simp only [hg24,qc (g:=26),qm,f18,qq,qb,Nat.reduceAdd,Nat.zero_add,Nat.add_zero,qr,ql,B0,reduceIte,reduceEqDiff]
   refine qg (v:=lst Vote.cells v_0.Led) rfl ?_
   simp only [hg24,qc (g:=26),qm,zo,qb,zt,f19,qq,Nat.reduceAdd,Nat.zero_add,Nat.add_zero,qr,ql,B0,reduceIte,
     reduceEqDiff]
   refine qg (v:=lst Vote.cells v_1.Led) rfl ?_
   simp only [hg24,qc (g:=26),qm,zo,qb,zt,qu,qa7,qp,zg,qa,qk,B0,reduceIte,reduceEqDiff]
   exact hN23 _ _ ⟨hS21,by rw [orF hg24]; simp only [B0,reduceIte,reduceEqDiff],f18,f19⟩
 rintro fr25 h29 ⟨hS30,f26,f27,f28⟩
 simp only [List.drop_succ_cons,List.drop_zero]
 simp only [qa,f26,zb,B0,reduceIte,reduceEqDiff]
 refine zc (t:=(((decide ((List.length v_0.Servers:Int)≠(List.length v_1.Servers:Int)))||(decide ((List.length v_0.Post:Int) ≠
   (List.length v_1.Post:Int))))||(decide ((List.length v_0.Led:Int)≠(List.length v_1.Led:Int))))) (fun hc31=>?_) (fun hc31=>?_)
 ·rw [iteT hc31] at hF
  simp only [qf,qe,qd,qa,qz,B0,reduceIte,reduceEqDiff]
  have he:=qi hF
  subst he
  simp only [zm,B0,reduceIte,reduceEqDiff]
  exact rfl
 rw [iteF hc31] at hF
 simp only [zf,qqw,qf,qe,f27,qq,qb,Nat.reduceAdd,Nat.zero_add,Nat.add_zero,qr,ql,B0,reduceIte,reduceEqDiff]
 refine qg (v:=lst Server.cells v_0.Servers) rfl ?_
 simp only [zo,qb,zt,qd,qa,B0,reduceIte,reduceEqDiff]
 obtain ⟨oc34,hX36,hk37⟩:=kc hF
 simp only [q3q]
 refine qd1 (σ:=Unit) (fun i32 _=>u3 v_0 v_1 i32 ) (fun s fr' h'=>fr' 2 = .ref [lst Server.cells v_0.Servers,lst Letter.cells v_0.Post,
   lst Vote.cells v_0.Led] 0∧fr' 3 = .ref [lst Server.cells v_1.Servers,lst Letter.cells v_1.Post,lst Vote.cells v_1.Led] 0∧Sep h' (geL h.length) ([])) hX36 ⟨f27,f28,
   hS30⟩ (by simp only [B0,reduceIte,reduceEqDiff]) (by simp only [B0,reduceIte,
   reduceEqDiff]) (fun _ _ _ h=>h) rfl rfl (fun _ _ _ _ h=>h) (fun _ _ _ _ h=>h) (fun _ _ _ _ h=>h) (by decide) ?_ ?_
 ·rintro i32 _ fr46 h47 hx51 ⟨f49,f50,hS48⟩ f52 f53 oc35 hF38 hr39 Q40 hN41 hB45 hK42 hR43 hE44
  unfold u3 at hF38
  simp only [qz8,qf,qe,f52,qd,qa,q07,f49,qq,qb,Nat.reduceAdd,Nat.zero_add,Nat.add_zero,qr,ql,B0,reduceIte,
    reduceEqDiff]
  refine qg (v:=lst Server.cells v_0.Servers) rfl ?_
  obtain ⟨x54,hx55,hF56⟩:=qh hF38
  simp only [qd,jm,B0,reduceIte,reduceEqDiff]
  refine qg (v := .ref (Server.cells x54) 0) (k5 hx55 rfl) ?_
  simp only [ql,B0,reduceIte,reduceEqDiff]
  refine qg (v := .agg [.int .i64 x54.Term,.int .i64 x54.Voted,.bool x54.Stands,.bool x54.Leads,lst cI x54.Got,lst cI x54.Log]) rfl ?_
  simp only [jc,B0,reduceIte,reduceEqDiff]
  refine zr hS48 (fun b57 h58 hS59=>?_)
  simp only [zi,B0,reduceIte,reduceEqDiff]
  refine qy (us:=[.int .i64 x54.Term,.int .i64 x54.Voted,.bool x54.Stands,.bool x54.Leads,lst cI x54.Got,lst cI x54.Log]) rfl (cs':=[.int .i64 x54.Term,
    .int .i64 x54.Voted,.bool x54.Stands,.bool x54.Leads,lst cI x54.Got,lst cI x54.Log]) hS59 hW rfl rfl (nle rfl) rfl (fun h61 hS62=>?_)
  simp only [qa,B0,reduceIte,reduceEqDiff]
  refine zu hS62 hW (by simp only [B0,reduceIte,reduceEqDiff]) (fun h63 hS64=>?_)
  simp only [zq,qxe,qf,qe,f50,qq,qb,Nat.reduceAdd,Nat.zero_add,Nat.add_zero,qr,ql,B0,reduceIte,reduceEqDiff]
  refine qg (v:=lst Server.cells v_1.Servers) rfl ?_
  obtain ⟨x65,hx66,hF67⟩:=qh hF56
  simp only [qd,jm,B0,reduceIte,reduceEqDiff]
  refine qg (v := .ref (Server.cells x65) 0) (k5 hx66 rfl) ?_
  simp only [ql,B0,reduceIte,reduceEqDiff]
  refine qg (v := .agg [.int .i64 x65.Term,.int .i64 x65.Voted,.bool x65.Stands,.bool x65.Leads,lst cI x65.Got,lst cI x65.Log]) rfl ?_
  simp only [jc,B0,reduceIte,reduceEqDiff]
  refine zr hS64 (fun b68 h69 hS70=>?_)
  simp only [zi,B0,reduceIte,reduceEqDiff]
  refine qy (us:=[.int .i64 x65.Term,.int .i64 x65.Voted,.bool x65.Stands,.bool x65.Leads,lst cI x65.Got,lst cI x65.Log]) rfl (cs':=[.int .i64 x65.Term,
    .int .i64 x65.Voted,.bool x65.Stands,.bool x65.Leads,lst cI x65.Got,lst cI x65.Log]) hS70 hW rfl rfl (nle rfl) rfl (fun h72 hS73=>?_)
  simp only [qa,B0,reduceIte,reduceEqDiff]
  refine zu hS73 hW (by simp only [B0,reduceIte,reduceEqDiff]) (fun h74 hS75=>?_)
  simp only [zq,qz3,qf,qe,qq,qb,Nat.reduceAdd,Nat.zero_add,Nat.add_zero,qr,ql,B0,reduceIte,reduceEqDiff]
  refine qg (v := .int .i64 x54.Term) rfl ?_
  simp only [qq,qb,Nat.reduceAdd,Nat.zero_add,Nat.add_zero,qr,ql,B0,reduceIte,reduceEqDiff]
  refine qg (v := .int .i64 x65.Term) rfl ?_
  simp only [qu,qb,qa7,qd,B0,reduceIte,reduceEqDiff]
  refine zw 6 (fun fr' h'=>Sep h' (geL h.length) ([])∧fr' 62 = .bool ((decide (x54.Term≠x65.Term))||(decide
    (x54.Voted≠x65.Voted)))∧fr' 2 = .ref [lst Server.cells v_0.Servers,lst Letter.cells v_0.Post,lst Vote.cells v_0.Led] 0∧fr' 3 = .ref [lst Server.cells v_1.Servers,
    lst Letter.cells v_1.Post,lst Vote.cells v_1.Led] 0∧fr' 6 = .ref [.int .i64 x54.Term,.int .i64 x54.Voted,.bool x54.Stands,.bool x54.Leads,lst cI x54.Got,
    lst cI x54.Log] 0∧fr' 7 = .ref [.int .i64 x65.Term,.int .i64 x65.Voted,.bool x65.Stands,.bool x65.Leads,lst cI x65.Got,
    lst cI x65.Log] 0∧fr' 37 = .int .i64 (List.length v_0.Servers:Int)∧fr' 38 = .int .i64 (i32:Int)) (fun Q76 hN77=>?_) ?_
  ·simp only [List.take_succ_cons,List.take_zero]
   simp only [qc (g:=56),B0,reduceIte,reduceEqDiff]
   refine qv (t:=(decide (x54.Term≠x65.Term))) (fun hg78=>?_) (fun hg78=>?_)
   ·simp only [hg78,qc (g:=56),zn,qp,qb,zh,qa,qk,B0,reduceIte,reduceEqDiff]
    exact hN77 _ _ ⟨hS75,by rw [orT hg78]; simp only [B0,reduceIte,reduceEqDiff],f49,f50,rfl,rfl,f53,f52⟩
   ·simp only [hg78,qc (g:=56),qm,qq,qb,Nat.reduceAdd,Nat.zero_add,Nat.add_zero,qr,ql,B0,reduceIte,reduceEqDiff]
    refine qg (v := .int .i64 x54.Voted) rfl ?_
    simp only [hg78,qc (g:=56),qm,qq,qb,Nat.reduceAdd,Nat.zero_add,Nat.add_zero,qr,ql,B0,reduceIte,reduceEqDiff]
    refine qg (v := .int .i64 x65.Voted) rfl ?_
    simp only [hg78,qc (g:=56),qm,qu,qb,qa7,qp,zg,qa,qk,B0,reduceIte,reduceEqDiff]
    exact hN77 _ _ ⟨hS75,by rw [orF hg78]; simp only [B0,reduceIte,reduceEqDiff],f49,f50,rfl,rfl,f53,f52⟩
  rintro fr79 h87 ⟨hS88,f80,f81,f82,f83,f84,f85,f86⟩
  simp only [List.drop_succ_cons,List.drop_zero]
  simp only [f80,qd,B0,reduceIte,reduceEqDiff]
  refine zw 6 (fun fr' h'=>Sep h' (geL h.length) ([])∧fr' 69 = .bool (((decide (x54.Term≠x65.Term))||(decide (x54.Voted≠x65.Voted))) ||
    (!(x54.Stands == x65.Stands)))∧fr' 2 = .ref [lst Server.cells v_0.Servers,lst Letter.cells v_0.Post,
    lst Vote.cells v_0.Led] 0∧fr' 3 = .ref [lst Server.cells v_1.Servers,lst Letter.cells v_1.Post,lst Vote.cells v_1.Led] 0∧fr' 6 = .ref [.int .i64 x54.Term,
    .int .i64 x54.Voted,.bool x54.Stands,.bool x54.Leads,lst cI x54.Got,lst cI x54.Log] 0∧fr' 7 = .ref [.int .i64 x65.Term,.int .i64 x65.Voted,.bool x65.Stands,
    .bool x65.Leads,lst cI x65.Got,lst cI x65.Log] 0∧fr' 37 = .int .i64 (List.length v_0.Servers:Int)∧fr' 38 = .int .i64 (i32:Int)) (fun Q89 hN90=>?_) ?_
  ·simp only [List.take_succ_cons,List.take_zero]
   simp only [qc (g:=63),B0,reduceIte,reduceEqDiff]
   refine qv (t:=((decide (x54.Term≠x65.Term))||(decide (x54.Voted≠x65.Voted)))) (fun hg91=>?_) (fun hg91=>?_)
   ·simp only [hg91,qc (g:=63),zn,qp,qb,zh,qa,qk,B0,reduceIte,reduceEqDiff]
    exact hN90 _ _ ⟨hS88,by rw [orT hg91]; simp only [B0,reduceIte,reduceEqDiff],f81,f82,f83,f84,f85,f86⟩
   ·simp only [hg91,qc (g:=63),qm,f83,qq,qb,Nat.reduceAdd,Nat.zero_add,Nat.add_zero,qr,ql,B0,reduceIte,reduceEqDiff]
    refine qg (v := .bool x54.Stands) rfl ?_
    simp only [hg91,qc (g:=63),qm,f84,qq,qb,Nat.reduceAdd,Nat.zero_add,Nat.add_zero,qr,ql,B0,reduceIte,reduceEqDiff]
    refine qg (v := .bool x65.Stands) rfl ?_
    simp only [hg91,qc (g:=63),qm,qct,qb,qb0,qp,zg,qa,qk,B0,reduceIte,reduceEqDiff]
    exact hN90 _ _ ⟨hS88,by rw [orF hg91]; simp only [B0,reduceIte,reduceEqDiff],f81,f82,f83,f84,f85,f86⟩
  rintro fr92 h100 ⟨hS101,f93,f94,f95,f96,f97,f98,f99⟩
  simp only [List.drop_succ_cons,List.drop_zero]
  simp only [f93,qd,B0,reduceIte,reduceEqDiff]
  refine zw 6 (fun fr' h'=>Sep h' (geL h.length) ([])∧fr' 76 = .bool ((((decide (x54.Term≠x65.Term))||(decide (x54.Voted≠x65.Voted))) ||
    (!(x54.Stands == x65.Stands)))||(!(x54.Leads == x65.Leads)))∧fr' 2 = .ref [lst Server.cells v_0.Servers,lst Letter.cells v_0.Post,
    lst Vote.cells v_0.Led] 0∧fr' 3 = .ref [lst Server.cells v_1.Servers,lst Letter.cells v_1.Post,lst Vote.cells v_1.Led] 0∧fr' 6 = .ref [.int .i64 x54.Term,
    .int .i64 x54.Voted,.bool x54.Stands,.bool x54.Leads,lst cI x54.Got,lst cI x54.Log] 0∧fr' 7 = .ref [.int .i64 x65.Term,.int .i64 x65.Voted,.bool x65.Stands,
    .bool x65.Leads,lst cI x65.Got,lst cI x65.Log] 0∧fr' 37 = .int .i64 (List.length v_0.Servers:Int)∧fr' 38 = .int .i64 (i32:Int)) (fun Q102 hN103=>?_) ?_
  ·simp only [List.take_succ_cons,List.take_zero]
   simp only [qc (g:=70),B0,reduceIte,reduceEqDiff]
   refine qv (t:=(((decide (x54.Term≠x65.Term))||(decide (x54.Voted≠x65.Voted)))||(!(x54.Stands == x65.Stands)))) (fun hg104=>?_) (fun hg104=>?_)
   ·simp only [hg104,qc (g:=70),zn,qp,qb,zh,qa,qk,B0,reduceIte,reduceEqDiff]
    exact hN103 _ _ ⟨hS101,by rw [orT hg104]; simp only [B0,reduceIte,reduceEqDiff],f94,f95,f96,f97,f98,f99⟩
   ·simp only [hg104,qc (g:=70),qm,f96,qq,qb,Nat.reduceAdd,Nat.zero_add,Nat.add_zero,qr,ql,B0,reduceIte,reduceEqDiff]
    refine qg (v := .bool x54.Leads) rfl ?_
    simp only [hg104,qc (g:=70),qm,f97,qq,qb,Nat.reduceAdd,Nat.zero_add,Nat.add_zero,qr,ql,B0,reduceIte,reduceEqDiff]
    refine qg (v := .bool x65.Leads) rfl ?_
    simp only [hg104,qc (g:=70),qm,qct,qb,qb0,qp,zg,qa,qk,B0,reduceIte,reduceEqDiff]
    exact hN103 _ _ ⟨hS101,by rw [orF hg104]; simp only [B0,reduceIte,reduceEqDiff],f94,f95,f96,f97,f98,f99⟩
  rintro fr105 h113 ⟨hS114,f106,f107,f108,f109,f110,f111,f112⟩
  simp only [List.drop_succ_cons,List.drop_zero]
  simp only [f106,qd,B0,reduceIte,reduceEqDiff]
  obtain ⟨v118,hx119,hF120⟩:=qh hF67
  refine zw 7 (fun fr' h'=>Sep h' (geL h.length) ([])∧fr' 84 = .bool v118∧fr' 2 = .ref [lst Server.cells v_0.Servers,lst Letter.cells v_0.Post,
    lst Vote.cells v_0.Led] 0∧fr' 3 = .ref [lst Server.cells v_1.Servers,lst Letter.cells v_1.Post,lst Vote.cells v_1.Led] 0∧fr' 6 = .ref [.int .i64 x54.Term,
    .int .i64 x54.Voted,.bool x54.Stands,.bool x54.Leads,lst cI x54.Got,lst cI x54.Log] 0∧fr' 7 = .ref [.int .i64 x65.Term,.int .i64 x65.Voted,.bool x65.Stands,
    .bool x65.Leads,lst cI x65.Got,lst cI x65.Log] 0∧fr' 37 = .int .i64 (List.length v_0.Servers:Int)∧fr' 38 = .int .i64 (i32:Int)) (fun Q115 hN116=>?_) ?_
  ·simp only [List.take_succ_cons,List.take_zero]
   simp only [qc (g:=77),B0,reduceIte,reduceEqDiff]
   refine qv (t:=((((decide (x54.Term≠x65.Term))||(decide (x54.Voted≠x65.Voted)))||(!(x54.Stands == x65.Stands)))||(!(x54.Leads == x65.Leads))))
     (fun hg117=>?_) (fun hg117=>?_)
   ·rw [iteT hg117] at hx119
    simp only [hg117,qc (g:=77),zn,qp,qb,zh,qa,qk,B0,reduceIte,reduceEqDiff]
    have e121:=qi hx119
    exact hN116 _ _ ⟨hS114,by rw [←e121]; simp only [B0,reduceIte,reduceEqDiff],f107,f108,f109,f110,f111,f112⟩
   ·rw [iteF hg117] at hx119
    simp only [hg117,qc (g:=77),qm,f109,qq,qb,Nat.reduceAdd,Nat.zero_add,Nat.add_zero,qr,ql,B0,reduceIte,reduceEqDiff]
    refine qg (v:=lst cI x54.Got) rfl ?_
    simp only [hg117,qc (g:=77),qm,f110,qq,qb,Nat.reduceAdd,Nat.zero_add,Nat.add_zero,qr,ql,B0,reduceIte,reduceEqDiff]
    refine qg (v:=lst cI x65.Got) rfl ?_
    obtain ⟨v122,hx123,hF124⟩:=qh hx119
    simp only [hg117,qc (g:=77),qm,qs,B0,reduceIte,reduceEqDiff]
    refine z9 rfl (qj zj (qj zj qw)) (qdh (fun b hb=>decide_eq_true hb) x54.Got x65.Got v122 hx123) ?_
    simp only [hg117,qc (g:=77),qm,jf,qb,j5,qp,zg,qa,qk,B0,reduceIte,reduceEqDiff]
    have e125:=qi hF124
    exact hN116 _ _ ⟨hS114,by rw [←e125]; simp only [B0,reduceIte,reduceEqDiff],f107,f108,f109,f110,f111,f112⟩
  rintro fr126 h134 ⟨hS135,f127,f128,f129,f130,f131,f132,f133⟩
  simp only [List.drop_succ_cons,List.drop_zero]
  simp only [f127,qd,B0,reduceIte,reduceEqDiff]
  obtain ⟨v139,hx140,hF141⟩:=qh hF120
  refine zw 7 (fun fr' h'=>Sep h' (geL h.length) ([])∧fr' 92 = .bool v139∧fr' 2 = .ref [lst Server.cells v_0.Servers,lst Letter.cells v_0.Post,
    lst Vote.cells v_0.Led] 0∧fr' 3 = .ref [lst Server.cells v_1.Servers,lst Letter.cells v_1.Post,
    lst Vote.cells v_1.Led] 0∧fr' 37 = .int .i64 (List.length v_0.Servers:Int)∧fr' 38 = .int .i64 (i32:Int)) (fun Q136 hN137=>?_) ?_
  ·simp only [List.take_succ_cons,List.take_zero]
   simp only [qc (g:=85),B0,reduceIte,reduceEqDiff]
   refine qv (t:=v118) (fun hg138=>?_) (fun hg138=>?_)
   ·rw [iteT hg138] at hx140
    simp only [hg138,qc (g:=85),zn,qp,qb,zh,qa,qk,B0,reduceIte,reduceEqDiff]
    have e142:=qi hx140
    exact hN137 _ _ ⟨hS135,by rw [←e142]; simp only [B0,reduceIte,reduceEqDiff],f128,f129,f132,f133⟩
   ·rw [iteF hg138] at hx140
    simp only [hg138,qc (g:=85),qm,f130,qq,qb,Nat.reduceAdd,Nat.zero_add,Nat.add_zero,qr,ql,B0,reduceIte,reduceEqDiff]
    refine qg (v:=lst cI x54.Log) rfl ?_
    simp only [hg138,qc (g:=85),qm,f131,qq,qb,Nat.reduceAdd,Nat.zero_add,Nat.add_zero,qr,ql,B0,reduceIte,reduceEqDiff]
    refine qg (v:=lst cI x65.Log) rfl ?_
    obtain ⟨v143,hx144,hF145⟩:=qh hx140
    simp only [hg138,qc (g:=85),qm,qs,B0,reduceIte,reduceEqDiff]
    refine z9 rfl (qj zj (qj zj qw)) (qdh (fun b hb=>decide_eq_true hb) x54.Log x65.Log v143 hx144) ?_
    simp only [hg138,qc (g:=85),qm,jf,qb,j5,qp,zg,qa,qk,B0,reduceIte,reduceEqDiff]
    have e146:=qi hF145
    exact hN137 _ _ ⟨hS135,by rw [←e146]; simp only [B0,reduceIte,reduceEqDiff],f128,f129,f132,f133⟩
  rintro fr147 h153 ⟨hS154,f148,f149,f150,f151,f152⟩
  simp only [List.drop_succ_cons,List.drop_zero]
  simp only [qa,f148,zb,B0,reduceIte,reduceEqDiff]
  refine zc (t:=v139) (fun hc155=>?_) (fun hc155=>?_)
  ·rw [iteT hc155] at hF141
   simp only [qf,qe,qd,qa,qz,B0,reduceIte,reduceEqDiff]
   have e156:=qi hF141
   subst e156
   have ho157:=hr39 _ rfl
   have hk158:=hk37
   rw [ho157] at hk158
   dsimp only [jnO] at hk158
   apply hR43
   have he:=qi hk158
   subst he
   simp only [zm,B0,reduceIte,reduceEqDiff]
   exact rfl
  rw [iteF hc155] at hF141
  simp only [zf,qk,B0,reduceIte,reduceEqDiff]
  have e159:=qi hF141
  exact hN41 _ _ _ e159.symm ⟨f149,f150,hS154⟩ (f152) (f151)
 rintro _ fr161 h162 rfl ⟨f164,f165,hS163⟩
 dsimp only [jnO] at hk37
 unfold qcp at hk37
 simp only [qvg,qf,qe,f164,qq,qb,Nat.reduceAdd,Nat.zero_add,Nat.add_zero,qr,ql,B0,reduceIte,reduceEqDiff]
 refine qg (v:=lst Letter.cells v_0.Post) rfl ?_
 simp only [zo,qb,zt,qd,qa,B0,reduceIte,reduceEqDiff]
 obtain ⟨oc168,hX170,hk171⟩:=kc hk37
 simp only [qu0]
 refine qd1 (σ:=Unit) (fun i166 _=>u7 v_0 v_1 i166 ) (fun s fr' h'=>fr' 2 = .ref [lst Server.cells v_0.Servers,lst Letter.cells v_0.Post,
   lst Vote.cells v_0.Led] 0∧fr' 3 = .ref [lst Server.cells v_1.Servers,lst Letter.cells v_1.Post,lst Vote.cells v_1.Led] 0∧Sep h' (geL h.length) ([])) hX170 ⟨f164,f165,
   hS163⟩ (by simp only [B0,reduceIte,reduceEqDiff]) (by simp only [B0,reduceIte,
   reduceEqDiff]) (fun _ _ _ h=>h) rfl rfl (fun _ _ _ _ h=>h) (fun _ _ _ _ h=>h) (fun _ _ _ _ h=>h) (by decide) ?_ ?_
 ·rintro i166 _ fr180 h181 hx185 ⟨f183,f184,hS182⟩ f186 f187 oc169 hF172 hr173 Q174 hN175 hB179 hK176 hR177 hE178
  unfold u7 at hF172
  simp only [qy4,qf,qe,f186,qd,qa,q2w,jr,f183,z8,qo,Nat.reduceAdd,Nat.zero_add,Nat.add_zero,qr,zz,B0,
    reduceIte,reduceEqDiff]
  refine qt (v:=lst Letter.cells v_0.Post) rfl ?_
  obtain ⟨x188,hx189,hF190⟩:=qh hF172
  simp only [ja,qo,qbj,B0,reduceIte,reduceEqDiff]
  refine qt (v := .ref (Letter.cells x188) 0) (k5 hx189 rfl) ?_
  simp only [zz,B0,reduceIte,reduceEqDiff]
  refine qt (v := .agg [.int .i64 x188.To,.int .i64 x188.From,.int .i64 x188.Term,.bool x188.Asks,.int .i64 x188.Last,.int .i64 x188.Long,.bool x188.Grant]) rfl ?_
  simp only [f184,z8,qo,Nat.reduceAdd,Nat.zero_add,Nat.add_zero,qr,zz,B0,reduceIte,reduceEqDiff]
  refine qt (v:=lst Letter.cells v_1.Post) rfl ?_
  obtain ⟨x191,hx192,hF193⟩:=qh hF190
  simp only [ja,qo,qbj,B0,reduceIte,reduceEqDiff]
  refine qt (v := .ref (Letter.cells x191) 0) (k5 hx192 rfl) ?_
  simp only [zz,B0,reduceIte,reduceEqDiff]
  refine qt (v := .agg [.int .i64 x191.To,.int .i64 x191.From,.int .i64 x191.Term,.bool x191.Asks,.int .i64 x191.Last,.int .i64 x191.Long,.bool x191.Grant]) rfl ?_
  simp only [qs9,B0,reduceIte,reduceEqDiff]
  refine qt (v := .bool (!((x188.To == x191.To)&&((x188.From == x191.From)&&((x188.Term == x191.Term)&&((x188.Asks == x191.Asks)&&((x188.Last == x191.Last) &&
    ((x188.Long == x191.Long)&&((x188.Grant == x191.Grant)&&true))))))))) rfl ?_
  simp only [zk,zb,B0,reduceIte,reduceEqDiff]
  refine zc (t:=(!((x188.To == x191.To)&&((x188.From == x191.From)&&((x188.Term == x191.Term)&&((x188.Asks == x191.Asks)&&((x188.Last == x191.Last) &&
    ((x188.Long == x191.Long)&&((x188.Grant == x191.Grant)&&true))))))))) (fun hc194=>?_) (fun hc194=>?_)
  ·rw [iteT hc194] at hF193
   simp only [qf,qe,qd,qa,qz,B0,reduceIte,reduceEqDiff]
   have e195:=qi hF193
   subst e195
   have ho196:=hr173 _ rfl
   have hk197:=hk171
   rw [ho196] at hk197
   dsimp only [jnO] at hk197
   apply hR177
   have he:=qi hk197
   subst he
   simp only [zm,B0,reduceIte,reduceEqDiff]
   exact rfl
  rw [iteF hc194] at hF193
  simp only [zf,qk,B0,reduceIte,reduceEqDiff]
  have e198:=qi hF193
  exact hN175 _ _ _ e198.symm ⟨f183,f184,hS182⟩ (f186) (f187)
 rintro _ fr200 h201 rfl ⟨f203,f204,hS202⟩
 dsimp only [jnO] at hk171
 unfold qck at hk171
 simp only [qtr,qf,qe,f203,qq,qb,Nat.reduceAdd,Nat.zero_add,Nat.add_zero,qr,ql,B0,reduceIte,reduceEqDiff]
 refine qg (v:=lst Vote.cells v_0.Led) rfl ?_
 simp only [zo,qb,zt,qd,qa,B0,reduceIte,reduceEqDiff]
 obtain ⟨oc207,hX209,hk210⟩:=kc hk171
 simp only [qtt]
 refine qd1 (σ:=Unit) (fun i205 _=>u6 v_0 v_1 i205 ) (fun s fr' h'=>fr' 2 = .ref [lst Server.cells v_0.Servers,lst Letter.cells v_0.Post,
   lst Vote.cells v_0.Led] 0∧fr' 3 = .ref [lst Server.cells v_1.Servers,lst Letter.cells v_1.Post,lst Vote.cells v_1.Led] 0∧Sep h' (geL h.length) ([])) hX209 ⟨f203,f204,
   hS202⟩ (by simp only [B0,reduceIte,reduceEqDiff]) (by simp only [B0,reduceIte,
   reduceEqDiff]) (fun _ _ _ h=>h) rfl rfl (fun _ _ _ _ h=>h) (fun _ _ _ _ h=>h) (fun _ _ _ _ h=>h) (by decide) ?_ ?_
 ·rintro i205 _ fr219 h220 hx224 ⟨f222,f223,hS221⟩ f225 f226 oc208 hF211 hr212 Q213 hN214 hB218 hK215 hR216 hE217
  unfold u6 at hF211
  simp only [qto,qf,qe,f225,qd,qa,qro,jr,f222,z8,qo,Nat.reduceAdd,Nat.zero_add,Nat.add_zero,qr,zz,B0,
    reduceIte,reduceEqDiff]
  refine qt (v:=lst Vote.cells v_0.Led) rfl ?_
  obtain ⟨x227,hx228,hF229⟩:=qh hF211
  simp only [ja,qo,qbj,B0,reduceIte,reduceEqDiff]
  refine qt (v := .ref (Vote.cells x227) 0) (k5 hx228 rfl) ?_
  simp only [zz,B0,reduceIte,reduceEqDiff]
  refine qt (v := .agg [.int .i64 x227.Term,.int .i64 x227.Leader]) rfl ?_
  simp only [f223,z8,qo,Nat.reduceAdd,Nat.zero_add,Nat.add_zero,qr,zz,B0,reduceIte,reduceEqDiff]
  refine qt (v:=lst Vote.cells v_1.Led) rfl ?_
  obtain ⟨x230,hx231,hF232⟩:=qh hF229
  simp only [ja,qo,qbj,B0,reduceIte,reduceEqDiff]
  refine qt (v := .ref (Vote.cells x230) 0) (k5 hx231 rfl) ?_
  simp only [zz,B0,reduceIte,reduceEqDiff]
  refine qt (v := .agg [.int .i64 x230.Term,.int .i64 x230.Leader]) rfl ?_
  simp only [qs9,B0,reduceIte,reduceEqDiff]
  refine qt (v := .bool (!((x227.Term == x230.Term)&&((x227.Leader == x230.Leader)&&true)))) rfl ?_
  simp only [zk,zb,B0,reduceIte,reduceEqDiff]
  refine zc (t:=(!((x227.Term == x230.Term)&&((x227.Leader == x230.Leader)&&true)))) (fun hc233=>?_) (fun hc233=>?_)
  ·rw [iteT hc233] at hF232
   simp only [qf,qe,qd,qa,qz,B0,reduceIte,reduceEqDiff]
   have e234:=qi hF232
   subst e234
   have ho235:=hr212 _ rfl
   have hk236:=hk210
   rw [ho235] at hk236
   dsimp only [jnO] at hk236
   apply hR216
   have he:=qi hk236
   subst he
   simp only [zm,B0,reduceIte,reduceEqDiff]
   exact rfl
  rw [iteF hc233] at hF232
  simp only [zf,qk,B0,reduceIte,reduceEqDiff]
  have e237:=qi hF232
  exact hN214 _ _ _ e237.symm ⟨f222,f223,hS221⟩ (f225) (f226)
 rintro _ fr239 h240 rfl ⟨f242,f243,hS241⟩
 dsimp only [jnO] at hk210
 unfold qch at hk210
 simp only [qf,qe,qd,qa,qz,B0,reduceIte,reduceEqDiff]
 have he:=qi hk210
 subst he
 simp only [zm,B0,reduceIte,reduceEqDiff]
 exact rfl
theorem yo {W:Nat→Bool}{h:Heap} (hW:∀ b,
  (geL h.length) b→W b=true) (n_0:Int) (low_1:Int) (high_2:Int) (r:Bool) (hF:some (zy n_0 low_1 high_2)=some r) : Ret E W 56 [.int .i64 n_0,
  .int .i64 low_1,.int .i64 high_2] h (fun v h'=>cut h.length h' E.sz false 9 v=some (.bool r)):=by
 refine Ret.of (fn:=x56) rfl (Run.of ?_)
 unfold zy at hF
 have zf0:ze [.int .i64 n_0,.int .i64 low_1,.int .i64 high_2] 0 = .int .i64 n_0:=rfl
 have zf1:ze [.int .i64 n_0,.int .i64 low_1,.int .i64 high_2] 1 = .int .i64 low_1:=rfl
 have zf2:ze [.int .i64 n_0,.int .i64 low_1,.int .i64 high_2] 2 = .int .i64 high_2:=rfl
 generalize ze [.int .i64 n_0,.int .i64 low_1,.int .i64 high_2]=fr0 at zf0 zf1 zf2 ⊢
 have hS:Sep h (geL h.length) []:=Sep.nil h
 simp only [x56,qf,qe,qd,qa,q3b,zf0,zf1,qu,qb,qgp,B0,reduceIte,reduceEqDiff]
 refine zw 4 (fun fr' h'=>Sep h' (geL h.length) ([])∧fr' 14 = .bool ((decide (low_1≤n_0))&&(decide (n_0≤high_2)))) (fun Q1 hN2=>?_) ?_
 ·simp only [List.take_succ_cons,List.take_zero]
  simp only [qc (g:=10),B0,reduceIte,reduceEqDiff]
  refine qv (t:=(decide (low_1≤n_0))) (fun hg3=>?_) (fun hg3=>?_)
  ·simp only [hg3,qc (g:=10),zd,zf0,qd,zf2,qu,qb,qh6,qp,zh,qa,qk,B0,reduceIte,reduceEqDiff]
   exact hN2 _ _ ⟨hS,by rw [wh hg3]; simp only [B0,reduceIte,reduceEqDiff]⟩
  ·simp only [hg3,qc (g:=10),ji,qp,qb,zg,qa,qk,B0,reduceIte,reduceEqDiff]
   exact hN2 _ _ ⟨hS,by rw [wj hg3]; simp only [B0,reduceIte,reduceEqDiff]⟩
 rintro fr4 h6 ⟨hS7,f5⟩
 simp only [List.drop_succ_cons,List.drop_zero]
 simp only [f5,qd,qa,qz,B0,reduceIte,reduceEqDiff]
 have he:=qi hF
 subst he
 simp only [zm,B0,reduceIte,reduceEqDiff]
 exact rfl
theorem uw {W:Nat→Bool}{h:Heap} (hW:∀ b,
  (geL h.length) b→W b=true) (l_0:List Int) (r:Bool) (hF:xb l_0=some r) : Ret E W 68 [lst cI l_0] h (fun v h'=>cut h.length h' E.sz false 9 v=some
  (.bool r)):=by
 refine Ret.of (fn:=x68) rfl (Run.of ?_)
 unfold xb at hF
 have zf0:ze [lst cI l_0] 0=lst cI l_0:=rfl
 generalize ze [lst cI l_0]=fr0 at zf0 ⊢
 have hS:Sep h (geL h.length) []:=Sep.nil h
 simp only [x68,qf,qe,qd,qa,qzt,zf0,zo,qb,zt,B0,reduceIte,reduceEqDiff]
 obtain ⟨oc3,hX5,hk6⟩:=kc hF
 simp only [q0o]
 refine yj (σ:=Unit) l_0 (fun i1 x2 _=>qa4 l_0 i1 x2 ) (fun s fr' h'=>fr' 0=lst cI l_0∧fr' 5=lst cI l_0∧Sep h' (geL h.length) ([])) hX5 ⟨zf0,
   rfl,hS⟩ (by simp only [B0,reduceIte,reduceEqDiff]) (by simp only [B0,reduceIte,
   reduceEqDiff]) (fun _ _ _ h=>h) rfl rfl (fun _ _ _ _ h=>h) (fun _ _ _ _ h=>h) (fun _ _ _ _ h=>h) (by decide) ?_ ?_
 ·rintro i1 x2 _ fr15 h16 hx20 ⟨f18,f19,hS17⟩ f21 f22 oc4 hF7 hr8 Q9 hN10 hB14 hK11 hR12 hE13
  unfold qa4 at hF7
  simp only [q3a,qf,qe,f21,qd,f19,jm,B0,reduceIte,reduceEqDiff]
  refine qg (v := .ref (cI x2) 0) (yh hx20 rfl) ?_
  simp only [ql,B0,reduceIte,reduceEqDiff]
  refine qg (v := .int .i64 x2) rfl ?_
  simp only [qd,qa,qx1,qf,qe,qs,B0,reduceIte,reduceEqDiff]
  refine z9 rfl (qj q8 (qj q8 (qj q8 qw))) (yo (fun b hb=>decide_eq_true hb) x2 0 100 _ rfl) ?_
  simp only [jf,qb,j5,qd,B0,reduceIte,reduceEqDiff]
  obtain ⟨v26,hx27,hF28⟩:=qh hF7
  refine zw 12 (fun fr' h'=>Sep h' (geL h.length) ([])∧fr' 27 = .bool v26∧fr' 0=lst cI l_0∧fr' 5=lst cI l_0∧fr' 6 = .int .i64
    (List.length l_0:Int)∧fr' 7 = .int .i64 (i1:Int)) (fun Q23 hN24=>?_) ?_
  ·simp only [List.take_succ_cons,List.take_zero]
   simp only [qc (g:=15),B0,reduceIte,reduceEqDiff]
   refine qv (t:=(!(zy x2 0 100))) (fun hg25=>?_) (fun hg25=>?_)
   ·rw [iteT hg25] at hx27
    simp only [hg25,qc (g:=15),zn,qc (g:=18),k7,qp,qb,zh,qa,qk,B0,reduceIte,reduceEqDiff]
    have e29:=qi hx27
    exact hN24 _ _ ⟨hS17,by rw [←e29]; simp only [B0,reduceIte,reduceEqDiff],f18,f19,f22,f21⟩
   ·rw [iteF hg25] at hx27
    simp only [hg25,qc (g:=15),qm,qd,qu,qb,wd,B0,reduceIte,reduceEqDiff]
    obtain ⟨v33,hx34,hF35⟩:=qh hx27
    refine zw 8 (fun fr' h'=>Sep h' (geL h.length) ([])∧fr' 26 = .bool v33∧fr' 0=lst cI l_0∧fr' 5=lst cI l_0∧fr' 6 = .int .i64
      (List.length l_0:Int)∧fr' 7 = .int .i64 (i1:Int)∧fr' 15 = .bool (!(zy x2 0 100))) (fun Q30 hN31=>?_) ?_
    ·simp only [List.take_succ_cons,List.take_zero]
     simp only [qc (g:=18),B0,reduceIte,reduceEqDiff]
     refine qv (t:=(decide ((0:Int)<(i1:Int)))) (fun hg32=>?_) (fun hg32=>?_)
     ·rw [iteT hg32] at hx34
      obtain ⟨x36,hx37,hF38⟩:=qh hx34
      simp only [hg32,qc (g:=18),zd,f18,qd,qu,qb,xx,jm,B0,reduceIte,reduceEqDiff]
      refine qg (v := .ref (cI x36) 0) (k5 hx37 rfl) ?_
      simp only [hg32,qc (g:=18),zd,ql,B0,reduceIte,reduceEqDiff]
      refine qg (v := .int .i64 x36) rfl ?_
      simp only [hg32,qc (g:=18),zd,qd,qu,qb,wd,hg25,qc (g:=15),qm,qp,zh,qa,qk,
        B0,reduceIte,reduceEqDiff]
      have e39:=qi hF38
      exact hN31 _ _ ⟨hS17,by rw [←e39]; simp only [B0,reduceIte,reduceEqDiff],f18,f19,f22,f21,by simp only [hg25,B0,reduceIte,reduceEqDiff]⟩
     ·rw [iteF hg32] at hx34
      simp only [hg32,qc (g:=18),ji,hg25,qc (g:=15),qm,qp,qb,zg,qa,qk,B0,reduceIte,
        reduceEqDiff]
      have e40:=qi hx34
      exact hN31 _ _ ⟨hS17,by rw [←e40]; simp only [B0,reduceIte,reduceEqDiff],f18,f19,f22,f21,by simp only [hg25,B0,reduceIte,reduceEqDiff]⟩
    rintro fr41 h48 ⟨hS49,f42,f43,f44,f45,f46,f47⟩
    simp only [List.drop_succ_cons,List.drop_zero]
    simp only [f47,hg25,qp,qb,zg,f42,qa,qk,B0,reduceIte,reduceEqDiff]
    have e50:=qi hF35
    exact hN24 _ _ ⟨hS49,by rw [←e50]; simp only [B0,reduceIte,reduceEqDiff],f43,f44,f45,f46⟩
  rintro fr51 h57 ⟨hS58,f52,f53,f54,f55,f56⟩
  simp only [List.drop_succ_cons,List.drop_zero]
  simp only [qa,f52,zb,B0,reduceIte,reduceEqDiff]
  refine zc (t:=v26) (fun hc59=>?_) (fun hc59=>?_)
  ·rw [iteT hc59] at hF28
   simp only [qf,qe,qd,qa,qz,B0,reduceIte,reduceEqDiff]
   have e60:=qi hF28
   subst e60
   have ho61:=hr8 _ rfl
   have hk62:=hk6
   rw [ho61] at hk62
   dsimp only [jnO] at hk62
   apply hR12
   have he:=qi hk62
   subst he
   simp only [zm,B0,reduceIte,reduceEqDiff]
   exact rfl
  rw [iteF hc59] at hF28
  simp only [zf,qk,B0,reduceIte,reduceEqDiff]
  have e63:=qi hF28
  exact hN10 _ _ _ e63.symm ⟨f53,f54,hS58⟩ (f56) (f55)
 rintro _ fr65 h66 rfl ⟨f68,f69,hS67⟩
 dsimp only [jnO] at hk6
 unfold qet at hk6
 simp only [q37,qf,qe,f68,qd,zo,qb,zt,qu,qh6,qa,qz,B0,reduceIte,reduceEqDiff]
 have he:=qi hk6
 subst he
 simp only [zm,B0,reduceIte,reduceEqDiff]
 exact rfl
theorem qio {W:Nat→Bool}{h:Heap} (hW:∀ b,
  (geL h.length) b→W b=true) (list_0:List Int) (many_1:Int) (r:Bool) (hF:qdi list_0 many_1=some r) : Ret E W 99 [lst cI list_0,
  .int .i64 many_1] h (fun v h'=>cut h.length h' E.sz false 9 v=some (.bool r)):=by
 refine Ret.of (fn:=x99) rfl (Run.of ?_)
 unfold qdi at hF
 have zf0:ze [lst cI list_0,.int .i64 many_1] 0=lst cI list_0:=rfl
 have zf1:ze [lst cI list_0,.int .i64 many_1] 1 = .int .i64 many_1:=rfl
 generalize ze [lst cI list_0,.int .i64 many_1]=fr0 at zf0 zf1 ⊢
 have hS:Sep h (geL h.length) []:=Sep.nil h
 simp only [x99,qf,qe,qd,qa,qxx,zf0,zo,qb,zt,B0,reduceIte,reduceEqDiff]
 obtain ⟨oc3,hX5,hk6⟩:=kc hF
 simp only [q28]
 refine yj (σ:=Unit) list_0 (fun i1 x2 _=>qaz list_0 many_1 i1 x2 )
   (fun s fr' h'=>fr' 0=lst cI list_0∧fr' 1 = .int .i64 many_1∧fr' 7=lst cI list_0∧Sep h' (geL h.length) ([])) hX5 ⟨zf0,zf1,rfl,hS⟩ (by simp only [B0,reduceIte,
   reduceEqDiff]) (by simp only [B0,reduceIte,reduceEqDiff]) (fun _ _ _ h=>h) rfl rfl (fun _ _ _ _ h=>h) (fun _ _ _ _ h=>h) (fun _ _ _ _ h=>h) (by decide) ?_ ?_
 ·rintro i1 x2 _ fr15 h16 hx21 ⟨f18,f19,f20,hS17⟩ f22 f23 oc4 hF7 hr8 Q9 hN10 hB14 hK11 hR12 hE13
  unfold qaz at hF7
  simp only [qy5,qf,qe,f22,qd,f20,jm,B0,reduceIte,reduceEqDiff]
  refine qg (v := .ref (cI x2) 0) (yh hx21 rfl) ?_
  simp only [ql,B0,reduceIte,reduceEqDiff]
  refine qg (v := .int .i64 x2) rfl ?_
  simp only [qd,qa,q1y,qf,qe,f19,qu,qb,xx,qs,B0,reduceIte,reduceEqDiff]
  refine z9 rfl (qj q8 (qj q8 (qj q8 qw))) (yo (fun b hb=>decide_eq_true hb) x2 0 (IntKind.wrap .i64 (many_1 - 1)) _ rfl) ?_
  simp only [jf,qb,j5,qd,B0,reduceIte,reduceEqDiff]
  obtain ⟨v27,hx28,hF29⟩:=qh hF7
  refine zw 12 (fun fr' h'=>Sep h' (geL h.length) ([])∧fr' 31 = .bool v27∧fr' 0=lst cI list_0∧fr' 1 = .int .i64 many_1∧fr' 7=lst cI list_0∧fr' 8 = .int .i64
    (List.length list_0:Int)∧fr' 9 = .int .i64 (i1:Int)) (fun Q24 hN25=>?_) ?_
  ·simp only [List.take_succ_cons,List.take_zero]
   simp only [qc (g:=19),B0,reduceIte,reduceEqDiff]
   refine qv (t:=(!(zy x2 0 (IntKind.wrap .i64 (many_1 - 1))))) (fun hg26=>?_) (fun hg26=>?_)
   ·rw [iteT hg26] at hx28
    simp only [hg26,qc (g:=19),zn,qc (g:=22),k7,qp,qb,zh,qa,qk,B0,reduceIte,reduceEqDiff]
    have e30:=qi hx28
    exact hN25 _ _ ⟨hS17,by rw [←e30]; simp only [B0,reduceIte,reduceEqDiff],f18,f19,f20,f23,f22⟩
   ·rw [iteF hg26] at hx28
    simp only [hg26,qc (g:=19),qm,qd,qu,qb,wd,B0,reduceIte,reduceEqDiff]
    obtain ⟨v34,hx35,hF36⟩:=qh hx28
    refine zw 8 (fun fr' h'=>Sep h' (geL h.length)
      ([])∧fr' 30 = .bool v34∧fr' 0=lst cI list_0∧fr' 1 = .int .i64 many_1∧fr' 7=lst cI list_0∧fr' 8 = .int .i64
      (List.length list_0:Int)∧fr' 9 = .int .i64 (i1:Int)∧fr' 19 = .bool (!(zy x2 0 (IntKind.wrap .i64 (many_1 - 1))))) (fun Q31 hN32=>?_) ?_
    ·simp only [List.take_succ_cons,List.take_zero]
     simp only [qc (g:=22),B0,reduceIte,reduceEqDiff]
     refine qv (t:=(decide ((0:Int)<(i1:Int)))) (fun hg33=>?_) (fun hg33=>?_)
     ·rw [iteT hg33] at hx35
      obtain ⟨x37,hx38,hF39⟩:=qh hx35
      simp only [hg33,qc (g:=22),zd,f18,qd,qu,qb,xx,jm,B0,reduceIte,reduceEqDiff]
      refine qg (v := .ref (cI x37) 0) (k5 hx38 rfl) ?_
      simp only [hg33,qc (g:=22),zd,ql,B0,reduceIte,reduceEqDiff]
      refine qg (v := .int .i64 x37) rfl ?_
      simp only [hg33,qc (g:=22),zd,qd,qu,qb,qgp,hg26,qc (g:=19),qm,qp,zh,qa,qk,
        B0,reduceIte,reduceEqDiff]
      have e40:=qi hF39
      exact hN32 _ _ ⟨hS17,by rw [←e40]; simp only [B0,reduceIte,reduceEqDiff],f18,f19,f20,f23,f22,by simp only [hg26,B0,reduceIte,reduceEqDiff]⟩
     ·rw [iteF hg33] at hx35
      simp only [hg33,qc (g:=22),ji,hg26,qc (g:=19),qm,qp,qb,zg,qa,qk,B0,reduceIte,
        reduceEqDiff]
      have e41:=qi hx35
      exact hN32 _ _ ⟨hS17,by rw [←e41]; simp only [B0,reduceIte,reduceEqDiff],f18,f19,f20,f23,f22,by simp only [hg26,B0,reduceIte,reduceEqDiff]⟩
    rintro fr42 h50 ⟨hS51,f43,f44,f45,f46,f47,f48,f49⟩
    simp only [List.drop_succ_cons,List.drop_zero]
    simp only [f49,hg26,qp,qb,zg,f43,qa,qk,B0,reduceIte,reduceEqDiff]
    have e52:=qi hF36
    exact hN25 _ _ ⟨hS51,by rw [←e52]; simp only [B0,reduceIte,reduceEqDiff],f44,f45,f46,f47,f48⟩
  rintro fr53 h60 ⟨hS61,f54,f55,f56,f57,f58,f59⟩
  simp only [List.drop_succ_cons,List.drop_zero]
  simp only [qa,f54,zb,B0,reduceIte,reduceEqDiff]
  refine zc (t:=v27) (fun hc62=>?_) (fun hc62=>?_)
  ·rw [iteT hc62] at hF29
   simp only [qf,qe,qd,qa,qz,B0,reduceIte,reduceEqDiff]
   have e63:=qi hF29
   subst e63
   have ho64:=hr8 _ rfl
   have hk65:=hk6
   rw [ho64] at hk65
   dsimp only [jnO] at hk65
   apply hR12
   have he:=qi hk65
   subst he
   simp only [zm,B0,reduceIte,reduceEqDiff]
   exact rfl
  rw [iteF hc62] at hF29
  simp only [zf,qk,B0,reduceIte,reduceEqDiff]
  have e66:=qi hF29
  exact hN10 _ _ _ e66.symm ⟨f55,f56,f57,hS61⟩ (f59) (f58)
 rintro _ fr68 h69 rfl ⟨f71,f72,f73,hS70⟩
 dsimp only [jnO] at hk6
 unfold qes at hk6
 simp only [qf,qe,qd,qa,qz,B0,reduceIte,reduceEqDiff]
 have he:=qi hk6
 subst he
 simp only [zm,B0,reduceIte,reduceEqDiff]
 exact rfl
theorem qbp {W:Nat→Bool}{h:Heap} (hW:∀ b,
  (geL h.length) b→W b=true) (s_0:List Vote) {g1:Nat} {caps1:List XV} (hm1:E.mode g1=1) (f_1:Vote→Option Bool) (hf1:∀ (W:Nat→Bool) (h:Heap),(∀ b,
  h.length≤b→W b=true)→∀ a0 r,f_1 a0=some r→Ret E W g1 ([.agg [.int .i64 a0.Term,
  .int .i64 a0.Leader]]++caps1) h (fun v h'=>cut h.length h' E.sz false 9 v=some (.bool r))) (r:Int)
  (hF:xe s_0 f_1=some r) : Ret E W 54 [lst Vote.cells s_0,.fn g1 caps1] h (fun v h'=>cut h.length h' E.sz false 9 v=some (.int .i64 r)):=by
 refine Ret.of (fn:=x54) rfl (Run.of ?_)
 unfold xe at hF
 have zf0:ze [lst Vote.cells s_0,.fn g1 caps1] 0=lst Vote.cells s_0:=rfl
 have zf1:ze [lst Vote.cells s_0,.fn g1 caps1] 1 = .fn g1 caps1:=rfl
 generalize ze [lst Vote.cells s_0,.fn g1 caps1]=fr0 at zf0 zf1 ⊢
 have hS:Sep h (geL h.length) []:=Sep.nil h
 simp only [x54,qf,qe,qd,qa,q2v,zf0,zo,qb,zt,B0,reduceIte,reduceEqDiff]
 obtain ⟨oc3,hX5,hk6⟩:=kc hF
 simp only [q29]
 refine yj (σ:=Unit) s_0 (fun i1 x2 _=>x5 f_1 i1 x2 ) (fun s fr' h'=>fr' 0=lst Vote.cells s_0∧fr' 1 = .fn g1 caps1∧Sep h' (geL h.length)
   ([])) hX5 ⟨zf0,zf1,hS⟩ (by simp only [B0,reduceIte,reduceEqDiff]) (by simp only [B0,reduceIte,
   reduceEqDiff]) (fun _ _ _ h=>h) rfl rfl (fun _ _ _ _ h=>h) (fun _ _ _ _ h=>h) (fun _ _ _ _ h=>h) (by decide) ?_ ?_
 ·rintro i1 x2 _ fr15 h16 hx20 ⟨f18,f19,hS17⟩ f21 f22 oc4 hF7 hr8 Q9 hN10 hB14 hK11 hR12 hE13
  unfold x5 at hF7
  simp only [q0d,qf,qe,f21,qd,qa,qx4,f19,f18,jm,B0,reduceIte,reduceEqDiff]
  refine qg (v := .ref (Vote.cells x2) 0) (yh hx20 rfl) ?_
  simp only [ql,B0,reduceIte,reduceEqDiff]
  refine qg (v := .agg [.int .i64 x2.Term,.int .i64 x2.Leader]) rfl ?_
  obtain ⟨v23,hx24,hF25⟩:=qh hF7
  simp only [qs,B0,reduceIte,reduceEqDiff]
  refine z9 hm1 (qj (jj (qj q8 (qj q8 qw))) qw) (hf1 _ _ (fun b hb=>decide_eq_true hb) x2 v23 hx24) ?_
  simp only [qa,qxm,zb,B0,reduceIte,reduceEqDiff]
  refine zc (t:=v23) (fun hc26=>?_) (fun hc26=>?_)
  ·rw [iteT hc26] at hF25
   simp only [qf,qe,qd,qa,qz,B0,reduceIte,reduceEqDiff]
   have e27:=qi hF25
   subst e27
   have ho28:=hr8 _ rfl
   have hk29:=hk6
   rw [ho28] at hk29
   dsimp only [jnO] at hk29
   apply hR12
   have he:=qi hk29
   subst he
   simp only [zm,B0,reduceIte,reduceEqDiff]
   exact rfl
  rw [iteF hc26] at hF25
  simp only [zf,qk,B0,reduceIte,reduceEqDiff]
  have e30:=qi hF25
  exact hN10 _ _ _ e30.symm ⟨f18,f19,hS17⟩ (f21) (f22)
 rintro _ fr32 h33 rfl ⟨f35,f36,hS34⟩
 dsimp only [jnO] at hk6
 unfold qa8 at hk6
 simp only [qf,qe,qd,qa,qz,B0,reduceIte,reduceEqDiff]
 have he:=qi hk6
 subst he
 simp only [zm,B0,reduceIte,reduceEqDiff]
 exact rfl
theorem qe8 {W:Nat→Bool}{h:Heap} (hW:∀ b,
  (geL h.length) b→W b=true) (s_0:List Vote) {g1:Nat} {caps1:List XV} (hm1:E.mode g1=1) (f_1:Vote→Option Bool) (hf1:∀ (W:Nat→Bool) (h:Heap),(∀ b,
  h.length≤b→W b=true)→∀ a0 r,f_1 a0=some r→Ret E W g1 ([.agg [.int .i64 a0.Term,
  .int .i64 a0.Leader]]++caps1) h (fun v h'=>cut h.length h' E.sz false 9 v=some (.bool r))) (r:Bool)
  (hF:xw s_0 f_1=some r) : Ret E W 100 [lst Vote.cells s_0,.fn g1 caps1] h (fun v h'=>cut h.length h' E.sz false 9 v=some (.bool r)):=by
 refine Ret.of (fn:=qox) rfl (Run.of ?_)
 unfold xw at hF
 have zf0:ze [lst Vote.cells s_0,.fn g1 caps1] 0=lst Vote.cells s_0:=rfl
 have zf1:ze [lst Vote.cells s_0,.fn g1 caps1] 1 = .fn g1 caps1:=rfl
 generalize ze [lst Vote.cells s_0,.fn g1 caps1]=fr0 at zf0 zf1 ⊢
 have hS:Sep h (geL h.length) []:=Sep.nil h
 obtain ⟨v1,hx2,hF3⟩:=qh hF
 simp only [qox,qf,qe,qd,qa,qrv,zf0,zf1,qs,B0,reduceIte,reduceEqDiff]
 refine z9 rfl (qj zj (qj qkd qw)) (qbp (fun b hb=>decide_eq_true hb) s_0 (g1:=g1) (caps1:=caps1) hm1 f_1 hf1 v1 hx2) ?_
 simp only [qu,qb,qgp,qd,qa,qz,B0,reduceIte,reduceEqDiff]
 have he:=qi hF3
 subst he
 simp only [zm,B0,reduceIte,reduceEqDiff]
 exact rfl
end Go.Proofs.Ytpddolihbnfahaa.X
namespace Go.Proofs.Ytpddolihbnfahaa.X
open Go
open Nat (reduceEqDiff)
theorem qhz {W:Nat→Bool}{h:Heap} (hW:∀ b,
  (geL h.length) b→W b=true) (v_0:Vote) (cap_0:Int) (r:Bool) (hF:some (ux v_0 cap_0)=some r) : Ret E W 101 [.agg [.int .i64 v_0.Term,
  .int .i64 v_0.Leader],.ref (cI cap_0) 0] h (fun v h'=>cut h.length h' E.sz false 9 v=some (.bool r)):=by
 refine Ret.of (fn:=qoc) rfl (Run.of ?_)
 unfold ux at hF
 have zf0:ze [.agg [.int .i64 v_0.Term,.int .i64 v_0.Leader],.ref (cI cap_0) 0] 0 = .agg [.int .i64 v_0.Term,.int .i64 v_0.Leader]:=rfl
 have zf1:ze [.agg [.int .i64 v_0.Term,.int .i64 v_0.Leader],.ref (cI cap_0) 0] 1 = .ref (cI cap_0) 0:=rfl
 generalize ze [.agg [.int .i64 v_0.Term,.int .i64 v_0.Leader],.ref (cI cap_0) 0]=fr0 at zf0 zf1 ⊢
 have hS:Sep h (geL h.length) []:=Sep.nil h
 simp only [qoc,qf,qe,j7,zf0,B0,reduceIte,reduceEqDiff]
 refine jk (cs:=[.int .i64 v_0.Term,.int .i64 v_0.Leader]) hS rfl rfl rfl (fun b1 h2 hS3=>?_)
 simp only [qd,qa,B0,reduceIte,reduceEqDiff]
 refine zu hS3 hW (by simp only [B0,reduceIte,reduceEqDiff]) (fun h5 hS6=>?_)
 simp only [zq,qqh,qf,qe,qq,qb,Nat.reduceAdd,Nat.zero_add,Nat.add_zero,qr,ql,B0,reduceIte,reduceEqDiff]
 refine qg (v := .int .i64 v_0.Term) rfl ?_
 simp only [qs,B0,reduceIte,reduceEqDiff]
 refine z9 rfl (qj q8 (qj q8 (qj q8 qw))) (yo (fun b hb=>decide_eq_true hb) v_0.Term 0 100 _ rfl) ?_
 simp only [jf,qb,j5,qd,B0,reduceIte,reduceEqDiff]
 refine zw 7 (fun fr' h'=>Sep h' (geL h.length) ([])∧fr' 15 = .bool ((!(zy v_0.Term 0 100))||(!(zy v_0.Leader 0 (IntKind.wrap .i64 (cap_0 - 1))))))
   (fun Q7 hN8=>?_) ?_
 ·simp only [List.take_succ_cons,List.take_zero]
  simp only [qc (g:=8),B0,reduceIte,reduceEqDiff]
  refine qv (t:=(!(zy v_0.Term 0 100))) (fun hg9=>?_) (fun hg9=>?_)
  ·simp only [hg9,qc (g:=8),zn,qp,qb,zh,qa,qk,B0,reduceIte,reduceEqDiff]
   exact hN8 _ _ ⟨hS6,by rw [orT hg9]; simp only [B0,reduceIte,reduceEqDiff]⟩
  ·simp only [hg9,qc (g:=8),qm,qq,qb,Nat.reduceAdd,Nat.zero_add,Nat.add_zero,qr,ql,B0,reduceIte,reduceEqDiff]
   refine qg (v := .int .i64 v_0.Leader) rfl ?_
   simp only [hg9,qc (g:=8),qm,zf1,ql,B0,reduceIte,reduceEqDiff]
   refine qg (v := .int .i64 cap_0) rfl ?_
   simp only [hg9,qc (g:=8),qm,qu,qb,xx,qs,B0,reduceIte,reduceEqDiff]
   refine z9 rfl (qj q8 (qj q8 (qj q8 qw))) (yo (fun b hb=>decide_eq_true hb) v_0.Leader 0 (IntKind.wrap .i64 (cap_0 - 1)) _ rfl) ?_
   simp only [hg9,qc (g:=8),qm,jf,qb,j5,qp,zg,qa,qk,B0,reduceIte,reduceEqDiff]
   exact hN8 _ _ ⟨hS6,by rw [orF hg9]; simp only [B0,reduceIte,reduceEqDiff]⟩
 rintro fr10 h12 ⟨hS13,f11⟩
 simp only [List.drop_succ_cons,List.drop_zero]
 simp only [f11,qd,qa,qz,B0,reduceIte,reduceEqDiff]
 have he:=qi hF
 subst he
 simp only [zm,B0,reduceIte,reduceEqDiff]
 exact rfl
theorem xm {W:Nat→Bool}{h:Heap} (hW:∀ b,
  (geL h.length) b→W b=true) (v_0:Election) (r:Bool) (hF:wt v_0=some r) : Ret E W 53 [.agg [lst Server.cells v_0.Servers,lst Letter.cells v_0.Post,
  lst Vote.cells v_0.Led]] h (fun v h'=>cut h.length h' E.sz false 9 v=some (.bool r)):=by
 refine Ret.of (fn:=x53) rfl (Run.of ?_)
 unfold wt at hF
 have zf0:ze [.agg [lst Server.cells v_0.Servers,lst Letter.cells v_0.Post,lst Vote.cells v_0.Led]] 0 = .agg [lst Server.cells v_0.Servers,lst Letter.cells v_0.Post,
   lst Vote.cells v_0.Led]:=rfl
 generalize ze [.agg [lst Server.cells v_0.Servers,lst Letter.cells v_0.Post,lst Vote.cells v_0.Led]]=fr0 at zf0 ⊢
 have hS:Sep h (geL h.length) []:=Sep.nil h
 simp only [x53,qf,qe,j7,zf0,B0,reduceIte,reduceEqDiff]
 refine jk (cs:=[lst Server.cells v_0.Servers,lst Letter.cells v_0.Post,lst Vote.cells v_0.Led]) hS rfl rfl rfl (fun b1 h2 hS3=>?_)
 simp only [qd,qa,B0,reduceIte,reduceEqDiff]
 refine zu hS3 hW (by simp only [B0,reduceIte,reduceEqDiff]) (fun h5 hS6=>?_)
 simp only [zq,qq5,qf,qe,qq,qb,Nat.reduceAdd,Nat.zero_add,Nat.add_zero,qr,ql,B0,reduceIte,reduceEqDiff]
 refine qg (v:=lst Server.cells v_0.Servers) rfl ?_
 simp only [zo,qb,zt,jc,B0,reduceIte,reduceEqDiff]
 refine zr hS6 (fun b7 h8 hS9=>?_)
 simp only [zi,B0,reduceIte,reduceEqDiff]
 refine qy (us:=[.int .i64 (List.length v_0.Servers:Int)]) rfl (cs':=[.int .i64 (List.length v_0.Servers:Int)]) hS9 hW rfl rfl (nle rfl) rfl (fun h11 hS12=>?_)
 simp only [qa,B0,reduceIte,reduceEqDiff]
 refine zu hS12 hW (by simp only [B0,reduceIte,reduceEqDiff]) (fun h13 hS14=>?_)
 simp only [zq,qs1,qf,qe,ql,B0,reduceIte,reduceEqDiff]
 refine qg (v := .int .i64 (List.length v_0.Servers:Int)) rfl ?_
 simp only [qs,B0,reduceIte,reduceEqDiff]
 refine z9 rfl (qj q8 (qj q8 (qj q8 qw))) (yo (fun b hb=>decide_eq_true hb) (List.length v_0.Servers:Int) 1 5 _ rfl) ?_
 simp only [jf,qb,j5,qd,B0,reduceIte,reduceEqDiff]
 refine zw 5 (fun fr' h'=>Sep h' (geL h.length) ([])∧fr' 19 = .bool ((!(zy (List.length v_0.Servers:Int) 1 5))||(decide ((20:Int) <
   (List.length v_0.Post:Int))))∧fr' 1 = .ref [lst Server.cells v_0.Servers,lst Letter.cells v_0.Post,
   lst Vote.cells v_0.Led] 0∧fr' 3 = .ref [.int .i64 (List.length v_0.Servers:Int)] 0) (fun Q15 hN16=>?_) ?_
 ·simp only [List.take_succ_cons,List.take_zero]
  simp only [qc (g:=14),B0,reduceIte,reduceEqDiff]
  refine qv (t:=(!(zy (List.length v_0.Servers:Int) 1 5))) (fun hg17=>?_) (fun hg17=>?_)
  ·simp only [hg17,qc (g:=14),zn,qp,qb,zh,qa,qk,B0,reduceIte,reduceEqDiff]
   exact hN16 _ _ ⟨hS14,by rw [orT hg17]; simp only [B0,reduceIte,reduceEqDiff],rfl,rfl⟩
  ·simp only [hg17,qc (g:=14),qm,qq,qb,Nat.reduceAdd,Nat.zero_add,Nat.add_zero,qr,ql,B0,reduceIte,reduceEqDiff]
   refine qg (v:=lst Letter.cells v_0.Post) rfl ?_
   simp only [hg17,qc (g:=14),qm,zo,qb,zt,qu,wd,qp,zg,qa,qk,B0,reduceIte,reduceEqDiff]
   exact hN16 _ _ ⟨hS14,by rw [orF hg17]; simp only [B0,reduceIte,reduceEqDiff],rfl,rfl⟩
 rintro fr18 h22 ⟨hS23,f19,f20,f21⟩
 simp only [List.drop_succ_cons,List.drop_zero]
 simp only [f19,qd,B0,reduceIte,reduceEqDiff]
 refine zw 5 (fun fr' h'=>Sep h' (geL h.length) ([])∧fr' 25 = .bool (((!(zy (List.length v_0.Servers:Int) 1 5))||(decide ((20:Int) <
   (List.length v_0.Post:Int))))||(decide ((80:Int)<(List.length v_0.Led:Int))))∧fr' 1 = .ref [lst Server.cells v_0.Servers,lst Letter.cells v_0.Post,
   lst Vote.cells v_0.Led] 0∧fr' 3 = .ref [.int .i64 (List.length v_0.Servers:Int)] 0) (fun Q24 hN25=>?_) ?_
 ·simp only [List.take_succ_cons,List.take_zero]
  simp only [qc (g:=20),B0,reduceIte,reduceEqDiff]
  refine qv (t:=((!(zy (List.length v_0.Servers:Int) 1 5))||(decide ((20:Int)<(List.length v_0.Post:Int))))) (fun hg26=>?_) (fun hg26=>?_)
  ·simp only [hg26,qc (g:=20),zn,qp,qb,zh,qa,qk,B0,reduceIte,reduceEqDiff]
   exact hN25 _ _ ⟨hS23,by rw [orT hg26]; simp only [B0,reduceIte,reduceEqDiff],f20,f21⟩
  ·simp only [hg26,qc (g:=20),qm,f20,qq,qb,Nat.reduceAdd,Nat.zero_add,Nat.add_zero,qr,ql,B0,reduceIte,reduceEqDiff]
   refine qg (v:=lst Vote.cells v_0.Led) rfl ?_
   simp only [hg26,qc (g:=20),qm,zo,qb,zt,qu,wd,qp,zg,qa,qk,B0,reduceIte,reduceEqDiff]
   exact hN25 _ _ ⟨hS23,by rw [orF hg26]; simp only [B0,reduceIte,reduceEqDiff],f20,f21⟩
 rintro fr27 h31 ⟨hS32,f28,f29,f30⟩
 simp only [List.drop_succ_cons,List.drop_zero]
 simp only [qa,f28,zb,B0,reduceIte,reduceEqDiff]
 refine zc (t:=(((!(zy (List.length v_0.Servers:Int) 1 5))||(decide ((20:Int)<(List.length v_0.Post:Int))))||(decide ((80:Int) <
   (List.length v_0.Led:Int))))) (fun hc33=>?_) (fun hc33=>?_)
 ·rw [iteT hc33] at hF
  simp only [qf,qe,qd,qa,qz,B0,reduceIte,reduceEqDiff]
  have he:=qi hF
  subst he
  simp only [zm,B0,reduceIte,reduceEqDiff]
  exact rfl
 rw [iteF hc33] at hF
 simp only [zf,qpe,qf,qe,f29,qq,qb,Nat.reduceAdd,Nat.zero_add,Nat.add_zero,qr,ql,B0,reduceIte,reduceEqDiff]
 refine qg (v:=lst Server.cells v_0.Servers) rfl ?_
 simp only [zo,qb,zt,qd,qa,B0,reduceIte,reduceEqDiff]
 obtain ⟨oc36,hX38,hk39⟩:=kc hF
 simp only [q0c]
 refine yj (σ:=Unit) v_0.Servers (fun i34 x35 _=>qay v_0 i34 x35 ) (fun s fr' h'=>fr' 1 = .ref [lst Server.cells v_0.Servers,
   lst Letter.cells v_0.Post,lst Vote.cells v_0.Led] 0∧fr' 3 = .ref [.int .i64 (List.length v_0.Servers:Int)] 0∧fr' 27=lst Server.cells v_0.Servers∧Sep h'
   (geL h.length) ([])) hX38 ⟨f29,f30,rfl,hS32⟩ (by simp only [B0,reduceIte,reduceEqDiff]) (by simp only [B0,reduceIte,
   reduceEqDiff]) (fun _ _ _ h=>h) rfl rfl (fun _ _ _ _ h=>h) (fun _ _ _ _ h=>h) (fun _ _ _ _ h=>h) (by decide) ?_ ?_
 ·rintro i34 x35 _ fr48 h49 hx54 ⟨f51,f52,f53,hS50⟩ f55 f56 oc37 hF40 hr41 Q42 hN43 hB47 hK44 hR45 hE46
  unfold qay at hF40
  simp only [q2j,qf,qe,f53,f55,jm,B0,reduceIte,reduceEqDiff]
  refine qg (v := .ref (Server.cells x35) 0) (yh hx54 rfl) ?_
  simp only [ql,B0,reduceIte,reduceEqDiff]
  refine qg (v := .agg [.int .i64 x35.Term,.int .i64 x35.Voted,.bool x35.Stands,.bool x35.Leads,lst cI x35.Got,lst cI x35.Log]) rfl ?_
  simp only [jc,B0,reduceIte,reduceEqDiff]
  refine zr hS50 (fun b57 h58 hS59=>?_)
  simp only [zi,B0,reduceIte,reduceEqDiff]
  refine qy (us:=[.int .i64 x35.Term,.int .i64 x35.Voted,.bool x35.Stands,.bool x35.Leads,lst cI x35.Got,lst cI x35.Log]) rfl (cs':=[.int .i64 x35.Term,
    .int .i64 x35.Voted,.bool x35.Stands,.bool x35.Leads,lst cI x35.Got,lst cI x35.Log]) hS59 hW rfl rfl (nle rfl) rfl (fun h61 hS62=>?_)
  simp only [qa,B0,reduceIte,reduceEqDiff]
  refine zu hS62 hW (by simp only [B0,reduceIte,reduceEqDiff]) (fun h63 hS64=>?_)
  simp only [zq,q2u,qf,qe,qq,qb,Nat.reduceAdd,Nat.zero_add,Nat.add_zero,qr,ql,B0,reduceIte,reduceEqDiff]
  refine qg (v := .int .i64 x35.Term) rfl ?_
  simp only [qs,B0,reduceIte,reduceEqDiff]
  refine z9 rfl (qj q8 (qj q8 (qj q8 qw))) (yo (fun b hb=>decide_eq_true hb) x35.Term 0 100 _ rfl) ?_
  simp only [jf,qb,j5,qd,B0,reduceIte,reduceEqDiff]
  refine zw 7 (fun fr' h'=>Sep h' (geL h.length) ([])∧fr' 44 = .bool ((!(zy x35.Term 0 100))||(!(zy x35.Voted (-1) (IntKind.wrap .i64
    ((List.length v_0.Servers:Int) - 1)))))∧fr' 1 = .ref [lst Server.cells v_0.Servers,lst Letter.cells v_0.Post,
    lst Vote.cells v_0.Led] 0∧fr' 3 = .ref [.int .i64 (List.length v_0.Servers:Int)] 0∧fr' 5 = .ref [.int .i64 x35.Term,.int .i64 x35.Voted,.bool x35.Stands,
    .bool x35.Leads,lst cI x35.Got,lst cI x35.Log] 0∧fr' 27=lst Server.cells v_0.Servers∧fr' 28 = .int .i64 (List.length v_0.Servers:Int)∧fr' 29 = .int .i64
    (i34:Int)) (fun Q65 hN66=>?_) ?_
  ·simp only [List.take_succ_cons,List.take_zero]
   simp only [qc (g:=37),B0,reduceIte,reduceEqDiff]
   refine qv (t:=(!(zy x35.Term 0 100))) (fun hg67=>?_) (fun hg67=>?_)
   ·simp only [hg67,qc (g:=37),zn,qp,qb,zh,qa,qk,B0,reduceIte,reduceEqDiff]
    exact hN66 _ _ ⟨hS64,by rw [orT hg67]; simp only [B0,reduceIte,reduceEqDiff],f51,f52,rfl,f53,f56,f55⟩
   ·simp only [hg67,qc (g:=37),qm,qq,qb,Nat.reduceAdd,Nat.zero_add,Nat.add_zero,qr,ql,B0,reduceIte,reduceEqDiff]
    refine qg (v := .int .i64 x35.Voted) rfl ?_
    simp only [hg67,qc (g:=37),qm,f52,ql,B0,reduceIte,reduceEqDiff]
    refine qg (v := .int .i64 (List.length v_0.Servers:Int)) rfl ?_
    simp only [hg67,qc (g:=37),qm,qu,qb,xx,qs,B0,reduceIte,reduceEqDiff]
    refine z9 rfl (qj q8 (qj q8 (qj q8 qw))) (yo (fun b hb=>decide_eq_true hb) x35.Voted (-1) (IntKind.wrap .i64
      ((List.length v_0.Servers:Int) - 1)) _ rfl) ?_
    simp only [hg67,qc (g:=37),qm,jf,qb,j5,qp,zg,qa,qk,B0,reduceIte,reduceEqDiff]
    exact hN66 _ _ ⟨hS64,by rw [orF hg67]; simp only [B0,reduceIte,reduceEqDiff],f51,f52,rfl,f53,f56,f55⟩
  rintro fr68 h76 ⟨hS77,f69,f70,f71,f72,f73,f74,f75⟩
  simp only [List.drop_succ_cons,List.drop_zero]
  simp only [f69,qd,B0,reduceIte,reduceEqDiff]
  refine zw 7 (fun fr' h'=>Sep h' (geL h.length) ([])∧fr' 52 = .bool (((!(zy x35.Term 0 100))||(!(zy x35.Voted (-1) (IntKind.wrap .i64
    ((List.length v_0.Servers:Int) - 1)))))||(x35.Stands&&x35.Leads))∧fr' 1 = .ref [lst Server.cells v_0.Servers,lst Letter.cells v_0.Post,
    lst Vote.cells v_0.Led] 0∧fr' 3 = .ref [.int .i64 (List.length v_0.Servers:Int)] 0∧fr' 5 = .ref [.int .i64 x35.Term,.int .i64 x35.Voted,.bool x35.Stands,
    .bool x35.Leads,lst cI x35.Got,lst cI x35.Log] 0∧fr' 27=lst Server.cells v_0.Servers∧fr' 28 = .int .i64 (List.length v_0.Servers:Int)∧fr' 29 = .int .i64
    (i34:Int)) (fun Q78 hN79=>?_) ?_
  ·simp only [List.take_succ_cons,List.take_zero]
   simp only [qc (g:=45),B0,reduceIte,reduceEqDiff]
   refine qv (t:=((!(zy x35.Term 0 100))||(!(zy x35.Voted (-1) (IntKind.wrap .i64 ((List.length v_0.Servers:Int) - 1)))))) (fun hg80=>?_)
     (fun hg80=>?_)
   ·simp only [hg80,qc (g:=45),zn,qc (g:=48),k7,qp,qb,zh,qa,qk,B0,reduceIte,reduceEqDiff]
    exact hN79 _ _ ⟨hS77,by rw [orT hg80]; simp only [B0,reduceIte,reduceEqDiff],f70,f71,f72,f73,f74,f75⟩
   ·simp only [hg80,qc (g:=45),qm,f72,qq,qb,Nat.reduceAdd,Nat.zero_add,Nat.add_zero,qr,ql,B0,reduceIte,reduceEqDiff]
    refine qg (v := .bool x35.Stands) rfl ?_
    simp only [hg80,qc (g:=45),qm,qd,B0,reduceIte,reduceEqDiff]
    refine zw 3 (fun fr' h'=>Sep h' (geL h.length) ([])∧fr' 51 = .bool (x35.Stands&&x35.Leads)∧fr' 1 = .ref [lst Server.cells v_0.Servers,
      lst Letter.cells v_0.Post,lst Vote.cells v_0.Led] 0∧fr' 3 = .ref [.int .i64 (List.length v_0.Servers:Int)] 0∧fr' 5 = .ref [.int .i64 x35.Term,
      .int .i64 x35.Voted,.bool x35.Stands,.bool x35.Leads,lst cI x35.Got,
      lst cI x35.Log] 0∧fr' 27=lst Server.cells v_0.Servers∧fr' 28 = .int .i64 (List.length v_0.Servers:Int)∧fr' 29 = .int .i64 (i34:Int)∧fr' 45 = .bool
      ((!(zy x35.Term 0 100))||(!(zy x35.Voted (-1) (IntKind.wrap .i64 ((List.length v_0.Servers:Int) - 1)))))) (fun Q81 hN82=>?_) ?_
    ·simp only [List.take_succ_cons,List.take_zero]
     simp only [qc (g:=48),B0,reduceIte,reduceEqDiff]
     refine qv (t:=x35.Stands) (fun hg83=>?_) (fun hg83=>?_)
     ·simp only [hg83,qc (g:=48),zd,f72,qq,qb,Nat.reduceAdd,Nat.zero_add,Nat.add_zero,qr,ql,B0,reduceIte,reduceEqDiff]
      refine qg (v := .bool x35.Leads) rfl ?_
      simp only [hg80,qc (g:=45),qm,hg83,qp,qb,zh,qa,qk,B0,reduceIte,reduceEqDiff]
      exact hN82 _ _ ⟨hS77,by rw [wh hg83]; simp only [B0,reduceIte,reduceEqDiff],f70,f71,by simp only [f72,B0,reduceIte,reduceEqDiff,hg83],f73,f74,f75,
        by simp only [hg80,B0,reduceIte,reduceEqDiff]⟩
     ·simp only [hg83,qc (g:=48),ji,hg80,qc (g:=45),qm,qp,qb,zg,qa,qk,B0,reduceIte,
       reduceEqDiff]
      exact hN82 _ _ ⟨hS77,by rw [wj hg83]; simp only [B0,reduceIte,reduceEqDiff],f70,f71,by simp only [f72,B0,reduceIte,reduceEqDiff,hg83],f73,f74,f75,
        by simp only [hg80,B0,reduceIte,reduceEqDiff]⟩
    rintro fr84 h93 ⟨hS94,f85,f86,f87,f88,f89,f90,f91,f92⟩
    simp only [List.drop_succ_cons,List.drop_zero]
    simp only [f92,hg80,qp,qb,zg,f85,qa,qk,B0,reduceIte,reduceEqDiff]
    exact hN79 _ _ ⟨hS94,by rw [orF hg80]; simp only [B0,reduceIte,reduceEqDiff],f86,f87,f88,f89,f90,f91⟩
  rintro fr95 h103 ⟨hS104,f96,f97,f98,f99,f100,f101,f102⟩
  simp only [List.drop_succ_cons,List.drop_zero]
  simp only [f96,qd,B0,reduceIte,reduceEqDiff]
  obtain ⟨v108,hx109,hF110⟩:=qh hF40
  refine zw 6 (fun fr' h'=>Sep h' (geL h.length) ([])∧fr' 59 = .bool v108∧fr' 1 = .ref [lst Server.cells v_0.Servers,lst Letter.cells v_0.Post,
    lst Vote.cells v_0.Led] 0∧fr' 3 = .ref [.int .i64 (List.length v_0.Servers:Int)] 0∧fr' 5 = .ref [.int .i64 x35.Term,.int .i64 x35.Voted,.bool x35.Stands,
    .bool x35.Leads,lst cI x35.Got,lst cI x35.Log] 0∧fr' 27=lst Server.cells v_0.Servers∧fr' 28 = .int .i64 (List.length v_0.Servers:Int)∧fr' 29 = .int .i64
    (i34:Int)) (fun Q105 hN106=>?_) ?_
  ·simp only [List.take_succ_cons,List.take_zero]
   simp only [qc (g:=53),B0,reduceIte,reduceEqDiff]
   refine qv (t:=(((!(zy x35.Term 0 100))||(!(zy x35.Voted (-1) (IntKind.wrap .i64 ((List.length v_0.Servers:Int) - 1))))) ||
     (x35.Stands&&x35.Leads))) (fun hg107=>?_) (fun hg107=>?_)
   ·rw [iteT hg107] at hx109
    simp only [hg107,qc (g:=53),zn,qp,qb,zh,qa,qk,B0,reduceIte,reduceEqDiff]
    have e111:=qi hx109
    exact hN106 _ _ ⟨hS104,by rw [←e111]; simp only [B0,reduceIte,reduceEqDiff],f97,f98,f99,f100,f101,f102⟩
   ·rw [iteF hg107] at hx109
    simp only [hg107,qc (g:=53),qm,f99,qq,qb,Nat.reduceAdd,Nat.zero_add,Nat.add_zero,qr,ql,B0,reduceIte,reduceEqDiff]
    refine qg (v:=lst cI x35.Got) rfl ?_
    simp only [hg107,qc (g:=53),qm,f98,ql,B0,reduceIte,reduceEqDiff]
    refine qg (v := .int .i64 (List.length v_0.Servers:Int)) rfl ?_
    obtain ⟨v112,hx113,hF114⟩:=qh hx109
    simp only [hg107,qc (g:=53),qm,qs,B0,reduceIte,reduceEqDiff]
    refine z9 rfl (qj zj (qj q8 qw)) (qio (fun b hb=>decide_eq_true hb) x35.Got (List.length v_0.Servers:Int) v112 hx113) ?_
    simp only [hg107,qc (g:=53),qm,jf,qb,j5,qp,zg,qa,qk,B0,reduceIte,reduceEqDiff]
    have e115:=qi hF114
    exact hN106 _ _ ⟨hS104,by rw [←e115]; simp only [B0,reduceIte,reduceEqDiff],f97,f98,f99,f100,f101,f102⟩
  rintro fr116 h124 ⟨hS125,f117,f118,f119,f120,f121,f122,f123⟩
  simp only [List.drop_succ_cons,List.drop_zero]
  simp only [f117,qd,B0,reduceIte,reduceEqDiff]
  refine zw 15 (fun fr' h'=>Sep h' (geL h.length) ([])∧fr' 75 = .bool (v108||(((!x35.Stands)&&(!x35.Leads))&&(decide ((0:Int) <
    (List.length x35.Got:Int)))))∧fr' 1 = .ref [lst Server.cells v_0.Servers,lst Letter.cells v_0.Post,
    lst Vote.cells v_0.Led] 0∧fr' 3 = .ref [.int .i64 (List.length v_0.Servers:Int)] 0∧fr' 5 = .ref [.int .i64 x35.Term,.int .i64 x35.Voted,.bool x35.Stands,
    .bool x35.Leads,lst cI x35.Got,lst cI x35.Log] 0∧fr' 27=lst Server.cells v_0.Servers∧fr' 28 = .int .i64 (List.length v_0.Servers:Int)∧fr' 29 = .int .i64
    (i34:Int)) (fun Q126 hN127=>?_) ?_
  ·simp only [List.take_succ_cons,List.take_zero]
   simp only [qc (g:=60),B0,reduceIte,reduceEqDiff]
   refine qv (t:=v108) (fun hg128=>?_) (fun hg128=>?_)
   ·simp only [hg128,qc (g:=60),zn,qc (g:=64),k7,qc (g:=69),qp,qb,zh,qa,qk,B0,reduceIte,
     reduceEqDiff]
    exact hN127 _ _ ⟨hS125,by rw [orT hg128]; simp only [B0,reduceIte,reduceEqDiff],f118,f119,f120,f121,f122,f123⟩
   ·simp only [hg128,qc (g:=60),qm,f120,qq,qb,Nat.reduceAdd,Nat.zero_add,Nat.add_zero,qr,ql,B0,reduceIte,reduceEqDiff]
    refine qg (v := .bool x35.Stands) rfl ?_
    simp only [hg128,qc (g:=60),qm,jf,qb,j5,qd,B0,reduceIte,reduceEqDiff]
    refine zw 4 (fun fr' h'=>Sep h' (geL h.length) ([])∧fr' 68 = .bool ((!x35.Stands)&&(!x35.Leads))∧fr' 1 = .ref [lst Server.cells v_0.Servers,
      lst Letter.cells v_0.Post,lst Vote.cells v_0.Led] 0∧fr' 3 = .ref [.int .i64 (List.length v_0.Servers:Int)] 0∧fr' 5 = .ref [.int .i64 x35.Term,
      .int .i64 x35.Voted,.bool x35.Stands,.bool x35.Leads,lst cI x35.Got,
      lst cI x35.Log] 0∧fr' 27=lst Server.cells v_0.Servers∧fr' 28 = .int .i64 (List.length v_0.Servers:Int)∧fr' 29 = .int .i64 (i34:Int)∧fr' 60 = .bool v108)
      (fun Q129 hN130=>?_) ?_
    ·simp only [List.take_succ_cons,List.take_zero]
     simp only [qc (g:=64),B0,reduceIte,reduceEqDiff]
     refine qv (t:=(!x35.Stands)) (fun hg131=>?_) (fun hg131=>?_)
     ·simp only [hg131,qc (g:=64),zd,f120,qq,qb,Nat.reduceAdd,Nat.zero_add,Nat.add_zero,qr,ql,B0,reduceIte,reduceEqDiff]
      refine qg (v := .bool x35.Leads) rfl ?_
      simp only [hg131,qc (g:=64),zd,jf,qb,j5,hg128,qc (g:=60),qm,qp,zh,qa,qk,B0,
        reduceIte,reduceEqDiff]
      exact hN130 _ _ ⟨hS125,by rw [wh hg131]; simp only [B0,reduceIte,reduceEqDiff],f118,f119,f120,f121,f122,f123,by simp only [hg128,B0,reduceIte,
        reduceEqDiff]⟩
     ·simp only [hg131,qc (g:=64),ji,hg128,qc (g:=60),qm,qp,qb,zg,qa,qk,B0,reduceIte,
       reduceEqDiff]
      exact hN130 _ _ ⟨hS125,by rw [wj hg131]; simp only [B0,reduceIte,reduceEqDiff],f118,f119,f120,f121,f122,f123,by simp only [hg128,B0,reduceIte,
        reduceEqDiff]⟩
    rintro fr132 h141 ⟨hS142,f133,f134,f135,f136,f137,f138,f139,f140⟩
    simp only [List.drop_succ_cons,List.drop_zero]
    simp only [f140,hg128,qc (g:=60),qm,f133,qd,B0,reduceIte,reduceEqDiff]
    refine zw 5 (fun fr' h'=>Sep h' (geL h.length) ([])∧fr' 74 = .bool (((!x35.Stands)&&(!x35.Leads))&&(decide ((0:Int) <
      (List.length x35.Got:Int))))∧fr' 1 = .ref [lst Server.cells v_0.Servers,lst Letter.cells v_0.Post,
      lst Vote.cells v_0.Led] 0∧fr' 3 = .ref [.int .i64 (List.length v_0.Servers:Int)] 0∧fr' 5 = .ref [.int .i64 x35.Term,.int .i64 x35.Voted,.bool x35.Stands,
      .bool x35.Leads,lst cI x35.Got,lst cI x35.Log] 0∧fr' 27=lst Server.cells v_0.Servers∧fr' 28 = .int .i64 (List.length v_0.Servers:Int)∧fr' 29 = .int .i64
      (i34:Int)∧fr' 60 = .bool v108) (fun Q143 hN144=>?_) ?_
    ·simp only [List.take_succ_cons,List.take_zero]
     simp only [qc (g:=69),B0,reduceIte,reduceEqDiff]
     refine qv (t:=((!x35.Stands)&&(!x35.Leads))) (fun hg145=>?_) (fun hg145=>?_)
     ·simp only [hg145,qc (g:=69),zd,f136,qq,qb,Nat.reduceAdd,Nat.zero_add,Nat.add_zero,qr,ql,B0,reduceIte,reduceEqDiff]
      refine qg (v:=lst cI x35.Got) rfl ?_
      simp only [hg145,qc (g:=69),zd,zo,qb,zt,qu,wd,f140,hg128,qc (g:=60),qm,qp,zh,
        qa,qk,B0,reduceIte,reduceEqDiff]
      exact hN144 _ _ ⟨hS142,by rw [wh hg145]; simp only [B0,reduceIte,reduceEqDiff],f134,f135,f136,f137,f138,f139,by simp only [f140,hg128,B0,reduceIte,
        reduceEqDiff]⟩
     ·simp only [hg145,qc (g:=69),ji,f140,hg128,qc (g:=60),qm,qp,qb,zg,qa,qk,B0,reduceIte,
       reduceEqDiff]
      exact hN144 _ _ ⟨hS142,by rw [wj hg145]; simp only [B0,reduceIte,reduceEqDiff],f134,f135,f136,f137,f138,f139,by simp only [f140,hg128,B0,reduceIte,
        reduceEqDiff]⟩
    rintro fr146 h155 ⟨hS156,f147,f148,f149,f150,f151,f152,f153,f154⟩
    simp only [List.drop_succ_cons,List.drop_zero]
    simp only [f154,hg128,qp,qb,zg,f147,qa,qk,B0,reduceIte,reduceEqDiff]
    exact hN127 _ _ ⟨hS156,by rw [orF hg128]; simp only [B0,reduceIte,reduceEqDiff],f148,f149,f150,f151,f152,f153⟩
  rintro fr157 h165 ⟨hS166,f158,f159,f160,f161,f162,f163,f164⟩
  simp only [List.drop_succ_cons,List.drop_zero]
  simp only [f158,qd,B0,reduceIte,reduceEqDiff]
  obtain ⟨v170,hx171,hF172⟩:=qh hF110
  refine zw 5 (fun fr' h'=>Sep h' (geL h.length) ([])∧fr' 81 = .bool v170∧fr' 1 = .ref [lst Server.cells v_0.Servers,lst Letter.cells v_0.Post,
    lst Vote.cells v_0.Led] 0∧fr' 3 = .ref [.int .i64 (List.length v_0.Servers:Int)] 0∧fr' 27=lst Server.cells v_0.Servers∧fr' 28 = .int .i64
    (List.length v_0.Servers:Int)∧fr' 29 = .int .i64 (i34:Int)) (fun Q167 hN168=>?_) ?_
  ·simp only [List.take_succ_cons,List.take_zero]
   simp only [qc (g:=76),B0,reduceIte,reduceEqDiff]
   refine qv (t:=(v108||(((!x35.Stands)&&(!x35.Leads))&&(decide ((0:Int)<(List.length x35.Got:Int)))))) (fun hg169=>?_) (fun hg169=>?_)
   ·rw [iteT hg169] at hx171
    simp only [hg169,qc (g:=76),zn,qp,qb,zh,qa,qk,B0,reduceIte,reduceEqDiff]
    have e173:=qi hx171
    exact hN168 _ _ ⟨hS166,by rw [←e173]; simp only [B0,reduceIte,reduceEqDiff],f159,f160,f162,f163,f164⟩
   ·rw [iteF hg169] at hx171
    simp only [hg169,qc (g:=76),qm,f161,qq,qb,Nat.reduceAdd,Nat.zero_add,Nat.add_zero,qr,ql,B0,reduceIte,reduceEqDiff]
    refine qg (v:=lst cI x35.Log) rfl ?_
    obtain ⟨v174,hx175,hF176⟩:=qh hx171
    simp only [hg169,qc (g:=76),qm,qs,B0,reduceIte,reduceEqDiff]
    refine z9 rfl (qj zj qw) (uw (fun b hb=>decide_eq_true hb) x35.Log v174 hx175) ?_
    simp only [hg169,qc (g:=76),qm,jf,qb,j5,qp,zg,qa,qk,B0,reduceIte,reduceEqDiff]
    have e177:=qi hF176
    exact hN168 _ _ ⟨hS166,by rw [←e177]; simp only [B0,reduceIte,reduceEqDiff],f159,f160,f162,f163,f164⟩
  rintro fr178 h185 ⟨hS186,f179,f180,f181,f182,f183,f184⟩
  simp only [List.drop_succ_cons,List.drop_zero]
  simp only [qa,f179,zb,B0,reduceIte,reduceEqDiff]
  refine zc (t:=v170) (fun hc187=>?_) (fun hc187=>?_)
  ·rw [iteT hc187] at hF172
   simp only [qf,qe,qd,qa,qz,B0,reduceIte,reduceEqDiff]
   have e188:=qi hF172
   subst e188
   have ho189:=hr41 _ rfl
   have hk190:=hk39
   rw [ho189] at hk190
   dsimp only [jnO] at hk190
   apply hR45
   have he:=qi hk190
   subst he
   simp only [zm,B0,reduceIte,reduceEqDiff]
   exact rfl
  rw [iteF hc187] at hF172
  simp only [zf,qk,B0,reduceIte,reduceEqDiff]
  have e191:=qi hF172
  exact hN43 _ _ _ e191.symm ⟨f180,f181,f182,hS186⟩ (f184) (f183)
 rintro _ fr193 h194 rfl ⟨f196,f197,f198,hS195⟩
 dsimp only [jnO] at hk39
 unfold qeo at hk39
 simp only [qu5,qf,qe,f196,qq,qb,Nat.reduceAdd,Nat.zero_add,Nat.add_zero,qr,ql,B0,reduceIte,reduceEqDiff]
 refine qg (v:=lst Letter.cells v_0.Post) rfl ?_
 simp only [zo,qb,zt,qd,qa,B0,reduceIte,reduceEqDiff]
 obtain ⟨oc201,hX203,hk204⟩:=kc hk39
 simp only [qy6]
 refine yj (σ:=Unit) v_0.Post (fun i199 x200 _=>qbd v_0 i199 x200 ) (fun s fr' h'=>fr' 1 = .ref [lst Server.cells v_0.Servers,
   lst Letter.cells v_0.Post,lst Vote.cells v_0.Led] 0∧fr' 3 = .ref [.int .i64 (List.length v_0.Servers:Int)] 0∧fr' 84=lst Letter.cells v_0.Post∧Sep h'
   (geL h.length) ([])) hX203 ⟨f196,f197,rfl,hS195⟩ (by simp only [B0,reduceIte,reduceEqDiff]) (by simp only [B0,reduceIte,
   reduceEqDiff]) (fun _ _ _ h=>h) rfl rfl (fun _ _ _ _ h=>h) (fun _ _ _ _ h=>h) (fun _ _ _ _ h=>h) (by decide) ?_ ?_
 ·rintro i199 x200 _ fr213 h214 hx219 ⟨f216,f217,f218,hS215⟩ f220 f221 oc202 hF205 hr206 Q207 hN208 hB212 hK209 hR210 hE211
  unfold qbd at hF205
  simp only [q0r,qf,qe,f218,f220,jm,B0,reduceIte,reduceEqDiff]
  refine qg (v := .ref (Letter.cells x200) 0) (yh hx219 rfl) ?_
  simp only [ql,B0,reduceIte,reduceEqDiff]
  refine qg (v := .agg [.int .i64 x200.To,.int .i64 x200.From,.int .i64 x200.Term,.bool x200.Asks,.int .i64 x200.Last,.int .i64 x200.Long,.bool x200.Grant]) rfl ?_
  simp only [jc,B0,reduceIte,reduceEqDiff]
  refine zr hS215 (fun b222 h223 hS224=>?_)
  simp only [zi,B0,reduceIte,reduceEqDiff]
  refine qy (us:=[.int .i64 x200.To,.int .i64 x200.From,.int .i64 x200.Term,.bool x200.Asks,.int .i64 x200.Last,.int .i64 x200.Long,
    .bool x200.Grant]) rfl (cs':=[.int .i64 x200.To,.int .i64 x200.From,.int .i64 x200.Term,.bool x200.Asks,.int .i64 x200.Last,.int .i64 x200.Long,
    .bool x200.Grant]) hS224 hW rfl rfl (nle rfl) rfl (fun h226 hS227=>?_)
  simp only [qa,B0,reduceIte,reduceEqDiff]
  refine zu hS227 hW (by simp only [B0,reduceIte,reduceEqDiff]) (fun h228 hS229=>?_)
  simp only [zq,qyi,qf,jr,z8,qo,Nat.reduceAdd,Nat.zero_add,Nat.add_zero,qr,zz,B0,reduceIte,reduceEqDiff]
  refine qt (v := .int .i64 x200.To) rfl ?_
  simp only [f217,zz,B0,reduceIte,reduceEqDiff]
  refine qt (v := .int .i64 (List.length v_0.Servers:Int)) rfl ?_
  simp only [wx,qo,xx,kz,B0,reduceIte,reduceEqDiff]
  refine qak rfl (qj q8 (qj q8 (qj q8 qw))) (yo (fun b hb=>decide_eq_true hb) x200.To 0 (IntKind.wrap .i64
    ((List.length v_0.Servers:Int) - 1)) _ rfl) ?_
  simp only [qhj,qo,j5,ja,B0,reduceIte,reduceEqDiff]
  simp only [za (g:=96),B0,reduceIte,reduceEqDiff]
  refine ko (t:=(!(zy x200.To 0 (IntKind.wrap .i64 ((List.length v_0.Servers:Int) - 1))))) (fun hg230=>?_) (fun hg230=>?_)
  ·rw [iteT hg230] at hF205
   simp only [hg230,za (g:=96),wc,kh,qo,zh,ja,za (g:=104),za (g:=111),zk,zb,qcm,
     qf,qe,qd,qa,qz,B0,reduceIte,reduceEqDiff]
   have e231:=qi hF205
   subst e231
   have ho232:=hr206 _ rfl
   have hk233:=hk204
   rw [ho232] at hk233
   dsimp only [jnO] at hk233
   apply hR210
   have he:=qi hk233
   subst he
   simp only [zm,B0,reduceIte,reduceEqDiff]
   exact rfl
  rw [iteF hg230] at hF205
  simp only [hg230,za (g:=96),zp,z8,qo,Nat.reduceAdd,Nat.zero_add,Nat.add_zero,qr,zz,B0,reduceIte,reduceEqDiff]
  refine qt (v := .int .i64 x200.From) rfl ?_
  simp only [hg230,za (g:=96),zp,f217,zz,B0,reduceIte,reduceEqDiff]
  refine qt (v := .int .i64 (List.length v_0.Servers:Int)) rfl ?_
  simp only [hg230,za (g:=96),zp,wx,qo,xx,kz,B0,reduceIte,reduceEqDiff]
  refine qak rfl (qj q8 (qj q8 (qj q8 qw))) (yo (fun b hb=>decide_eq_true hb) x200.From 0 (IntKind.wrap .i64
    ((List.length v_0.Servers:Int) - 1)) _ rfl) ?_
  simp only [hg230,za (g:=96),zp,qhj,qo,j5,kh,zg,ja,B0,reduceIte,reduceEqDiff]
  refine qc1 6 (fun fr' h'=>Sep h' (geL h.length) ([])∧fr' 110 = .bool ((!(zy x200.From 0 (IntKind.wrap .i64 ((List.length v_0.Servers:Int) - 1))))||(decide
    (x200.To=x200.From)))∧fr' 1 = .ref [lst Server.cells v_0.Servers,lst Letter.cells v_0.Post,
    lst Vote.cells v_0.Led] 0∧fr' 3 = .ref [.int .i64 (List.length v_0.Servers:Int)] 0∧fr' 7 = .ref [.int .i64 x200.To,.int .i64 x200.From,.int .i64 x200.Term,
    .bool x200.Asks,.int .i64 x200.Last,.int .i64 x200.Long,
    .bool x200.Grant] 0∧fr' 84=lst Letter.cells v_0.Post∧fr' 85 = .int .i64 (List.length v_0.Post:Int)∧fr' 86 = .int .i64 (i199:Int)) rfl (fun Q234 hN235=>?_) ?_
  ·simp only [List.take_succ_cons,List.take_zero]
   simp only [za (g:=104),B0,reduceIte,reduceEqDiff]
   refine ko (t:=(!(zy x200.From 0 (IntKind.wrap .i64 ((List.length v_0.Servers:Int) - 1))))) (fun hg236=>?_) (fun hg236=>?_)
   ·simp only [hg236,za (g:=104),wc,kh,qo,zh,zk,qk,B0,reduceIte,reduceEqDiff]
    exact hN235 _ _ ⟨hS229,by rw [orT hg236]; simp only [B0,reduceIte,reduceEqDiff],f216,f217,rfl,f218,f221,f220⟩
   ·simp only [hg236,za (g:=104),zp,z8,qo,Nat.reduceAdd,Nat.zero_add,Nat.add_zero,qr,zz,B0,reduceIte,reduceEqDiff]
    refine qt (v := .int .i64 x200.To) rfl ?_
    simp only [hg236,za (g:=104),zp,z8,qo,Nat.reduceAdd,Nat.zero_add,Nat.add_zero,qr,zz,B0,reduceIte,reduceEqDiff]
    refine qt (v := .int .i64 x200.From) rfl ?_
    simp only [hg236,za (g:=104),zp,wx,qo,ky,kh,zg,zk,qk,B0,reduceIte,reduceEqDiff]
    exact hN235 _ _ ⟨hS229,by rw [orF hg236]; simp only [B0,reduceIte,reduceEqDiff],f216,f217,rfl,f218,f221,f220⟩
  rintro fr237 h245 ⟨hS246,f238,f239,f240,f241,f242,f243,f244⟩
  simp only [List.drop_succ_cons,List.drop_zero]
  simp only [f238,ja,qo,B0,reduceIte,reduceEqDiff]
  simp only [za (g:=111),B0,reduceIte,reduceEqDiff]
  refine ko (t:=((!(zy x200.From 0 (IntKind.wrap .i64 ((List.length v_0.Servers:Int) - 1))))||(decide (x200.To=x200.From)))) (fun hg247=>?_)
    (fun hg247=>?_)
  ·rw [iteT hg247] at hF205
   simp only [hg247,za (g:=111),wc,kh,qo,zh,zk,zb,qcm,qf,qe,qd,qa,qz,B0,
     reduceIte,reduceEqDiff]
   have e248:=qi hF205
   subst e248
   have ho249:=hr206 _ rfl
   have hk250:=hk204
   rw [ho249] at hk250
   dsimp only [jnO] at hk250
   apply hR210
   have he:=qi hk250
   subst he
   simp only [zm,B0,reduceIte,reduceEqDiff]
   exact rfl
  rw [iteF hg247] at hF205
  simp only [hg247,za (g:=111),zp,f241,z8,qo,Nat.reduceAdd,Nat.zero_add,Nat.add_zero,qr,zz,B0,reduceIte,reduceEqDiff]
  refine qt (v := .int .i64 x200.Term) rfl ?_
  simp only [hg247,za (g:=111),zp,f239,z8,qo,Nat.reduceAdd,Nat.zero_add,Nat.add_zero,qr,zz,B0,reduceIte,reduceEqDiff]
  refine qt (v:=lst Server.cells v_0.Servers) rfl ?_
  simp only [hg247,za (g:=111),zp,f241,z8,qo,Nat.reduceAdd,Nat.zero_add,Nat.add_zero,qr,zz,B0,reduceIte,reduceEqDiff]
  refine qt (v := .int .i64 x200.From) rfl ?_
  obtain ⟨x251,hx252,hF253⟩:=qh hF205
  simp only [hg247,za (g:=111),zp,qbj,B0,reduceIte,reduceEqDiff]
  refine qt (v := .ref (Server.cells x251) 0) (k5 hx252 rfl) ?_
  simp only [hg247,za (g:=111),zp,z8,qo,Nat.reduceAdd,Nat.zero_add,Nat.add_zero,qr,zz,B0,reduceIte,reduceEqDiff]
  refine qt (v := .int .i64 x251.Term) rfl ?_
  simp only [hg247,za (g:=111),zp,kz,B0,reduceIte,reduceEqDiff]
  refine qak rfl (qj q8 (qj q8 (qj q8 qw))) (yo (fun b hb=>decide_eq_true hb) x200.Term 0 x251.Term _ rfl) ?_
  simp only [hg247,za (g:=111),zp,qhj,qo,j5,kh,zg,zk,zb,B0,reduceIte,reduceEqDiff]
  refine zc (t:=(!(zy x200.Term 0 x251.Term))) (fun hc254=>?_) (fun hc254=>?_)
  ·rw [iteT hc254] at hF253
   simp only [qf,qe,qd,qa,qz,B0,reduceIte,reduceEqDiff]
   have e255:=qi hF253
   subst e255
   have ho256:=hr206 _ rfl
   have hk257:=hk204
   rw [ho256] at hk257
   dsimp only [jnO] at hk257
   apply hR210
   have he:=qi hk257
   subst he
   simp only [zm,B0,reduceIte,reduceEqDiff]
   exact rfl
  rw [iteF hc254] at hF253
  simp only [zf,q0u,qf,qe,f241,qq,qb,Nat.reduceAdd,Nat.zero_add,Nat.add_zero,qr,ql,B0,reduceIte,reduceEqDiff]
  refine qg (v := .bool x200.Asks) rfl ?_
  simp only [qd,B0,reduceIte,reduceEqDiff]
  refine zw 15 (fun fr' h'=>Sep h' (geL h.length) ([])∧fr' 141 = .bool (x200.Asks&&((x200.Grant||(!(zy x200.Last (-1) 100))) ||
    (!(zy x200.Long 0 30))))∧fr' 1 = .ref [lst Server.cells v_0.Servers,lst Letter.cells v_0.Post,
    lst Vote.cells v_0.Led] 0∧fr' 3 = .ref [.int .i64 (List.length v_0.Servers:Int)] 0∧fr' 7 = .ref [.int .i64 x200.To,.int .i64 x200.From,.int .i64 x200.Term,
    .bool x200.Asks,.int .i64 x200.Last,.int .i64 x200.Long,
    .bool x200.Grant] 0∧fr' 84=lst Letter.cells v_0.Post∧fr' 85 = .int .i64 (List.length v_0.Post:Int)∧fr' 86 = .int .i64 (i199:Int)) (fun Q258 hN259=>?_) ?_
  ·simp only [List.take_succ_cons,List.take_zero]
   simp only [qc (g:=126),B0,reduceIte,reduceEqDiff]
   refine qv (t:=x200.Asks) (fun hg260=>?_) (fun hg260=>?_)
   ·simp only [hg260,qc (g:=126),zd,f241,qq,qb,Nat.reduceAdd,Nat.zero_add,Nat.add_zero,qr,ql,B0,reduceIte,reduceEqDiff]
    refine qg (v := .bool x200.Grant) rfl ?_
    simp only [hg260,qc (g:=126),zd,qd,B0,reduceIte,reduceEqDiff]
    refine zw 5 (fun fr' h'=>Sep h' (geL h.length) ([])∧fr' 134 = .bool (x200.Grant||(!(zy x200.Last (-1) 100)))∧fr' 1 = .ref [lst Server.cells v_0.Servers,
      lst Letter.cells v_0.Post,lst Vote.cells v_0.Led] 0∧fr' 3 = .ref [.int .i64 (List.length v_0.Servers:Int)] 0∧fr' 7 = .ref [.int .i64 x200.To,
      .int .i64 x200.From,.int .i64 x200.Term,.bool x200.Asks,.int .i64 x200.Last,.int .i64 x200.Long,
      .bool x200.Grant] 0∧fr' 84=lst Letter.cells v_0.Post∧fr' 85 = .int .i64 (List.length v_0.Post:Int)∧fr' 86 = .int .i64
      (i199:Int)∧fr' 126 = .bool x200.Asks) (fun Q261 hN262=>?_) ?_
    ·simp only [List.take_succ_cons,List.take_zero]
     simp only [qc (g:=129),B0,reduceIte,reduceEqDiff]
     refine qv (t:=x200.Grant) (fun hg263=>?_) (fun hg263=>?_)
     ·simp only [hg263,qc (g:=129),zn,hg260,qc (g:=126),zd,qp,qb,zh,qa,qk,B0,reduceIte,
       reduceEqDiff]
      exact hN262 _ _ ⟨hS246,by rw [orT hg263]; simp only [B0,reduceIte,reduceEqDiff],f239,f240,by simp only [f241,B0,reduceIte,reduceEqDiff,hg263],f242,f243,
        f244,by simp only [hg260,B0,reduceIte,reduceEqDiff]⟩
     ·simp only [hg263,qc (g:=129),qm,f241,qq,qb,Nat.reduceAdd,Nat.zero_add,Nat.add_zero,qr,ql,B0,reduceIte,reduceEqDiff]
      refine qg (v := .int .i64 x200.Last) rfl ?_
      simp only [hg263,qc (g:=129),qm,qs,B0,reduceIte,reduceEqDiff]
      refine z9 rfl (qj q8 (qj q8 (qj q8 qw))) (yo (fun b hb=>decide_eq_true hb) x200.Last (-1) 100 _ rfl) ?_
      simp only [hg263,qc (g:=129),qm,jf,qb,j5,hg260,qc (g:=126),zd,qp,zg,qa,qk,B0,
        reduceIte,reduceEqDiff]
      exact hN262 _ _ ⟨hS246,by rw [orF hg263]; simp only [B0,reduceIte,reduceEqDiff],f239,f240,by simp only [f241,B0,reduceIte,reduceEqDiff,hg263],f242,f243,
        f244,by simp only [hg260,B0,reduceIte,reduceEqDiff]⟩
    rintro fr264 h273 ⟨hS274,f265,f266,f267,f268,f269,f270,f271,f272⟩
    simp only [List.drop_succ_cons,List.drop_zero]
    simp only [f272,hg260,qc (g:=126),zd,f265,qd,B0,reduceIte,reduceEqDiff]
    refine zw 5 (fun fr' h'=>Sep h' (geL h.length) ([])∧fr' 140 = .bool ((x200.Grant||(!(zy x200.Last (-1) 100))) ||
      (!(zy x200.Long 0 30)))∧fr' 1 = .ref [lst Server.cells v_0.Servers,lst Letter.cells v_0.Post,
      lst Vote.cells v_0.Led] 0∧fr' 3 = .ref [.int .i64 (List.length v_0.Servers:Int)] 0∧fr' 7 = .ref [.int .i64 x200.To,.int .i64 x200.From,.int .i64 x200.Term,
      .bool x200.Asks,.int .i64 x200.Last,.int .i64 x200.Long,
      .bool x200.Grant] 0∧fr' 84=lst Letter.cells v_0.Post∧fr' 85 = .int .i64 (List.length v_0.Post:Int)∧fr' 86 = .int .i64
      (i199:Int)∧fr' 126 = .bool x200.Asks) (fun Q275 hN276=>?_) ?_
    ·simp only [List.take_succ_cons,List.take_zero]
     simp only [qc (g:=135),B0,reduceIte,reduceEqDiff]
     refine qv (t:=(x200.Grant||(!(zy x200.Last (-1) 100)))) (fun hg277=>?_) (fun hg277=>?_)
     ·simp only [hg277,qc (g:=135),zn,f272,hg260,qc (g:=126),zd,qp,qb,zh,qa,qk,B0,reduceIte,
       reduceEqDiff]
      exact hN276 _ _ ⟨hS274,by rw [orT hg277]; simp only [B0,reduceIte,reduceEqDiff],f266,f267,f268,f269,f270,f271,by simp only [f272,hg260,B0,reduceIte,
        reduceEqDiff]⟩
     ·simp only [hg277,qc (g:=135),qm,f268,qq,qb,Nat.reduceAdd,Nat.zero_add,Nat.add_zero,qr,ql,B0,reduceIte,reduceEqDiff]
      refine qg (v := .int .i64 x200.Long) rfl ?_
      simp only [hg277,qc (g:=135),qm,qs,B0,reduceIte,reduceEqDiff]
      refine z9 rfl (qj q8 (qj q8 (qj q8 qw))) (yo (fun b hb=>decide_eq_true hb) x200.Long 0 30 _ rfl) ?_
      simp only [hg277,qc (g:=135),qm,jf,qb,j5,f272,hg260,qc (g:=126),zd,qp,zg,qa,qk,
        B0,reduceIte,reduceEqDiff]
      exact hN276 _ _ ⟨hS274,by rw [orF hg277]; simp only [B0,reduceIte,reduceEqDiff],f266,f267,f268,f269,f270,f271,by simp only [f272,hg260,B0,reduceIte,
        reduceEqDiff]⟩
    rintro fr278 h287 ⟨hS288,f279,f280,f281,f282,f283,f284,f285,f286⟩
    simp only [List.drop_succ_cons,List.drop_zero]
    simp only [f286,hg260,qp,qb,zh,f279,qa,qk,B0,reduceIte,reduceEqDiff]
    exact hN259 _ _ ⟨hS288,by rw [wh hg260]; simp only [B0,reduceIte,reduceEqDiff],f280,f281,by simp only [f282,B0,reduceIte,reduceEqDiff,hg260],f283,f284,f285⟩
   ·simp only [hg260,qc (g:=126),ji,qc (g:=129),k7,qc (g:=135),qp,qb,zg,qa,qk,B0,
     reduceIte,reduceEqDiff]
    exact hN259 _ _ ⟨hS246,by rw [wj hg260]; simp only [B0,reduceIte,reduceEqDiff],f239,f240,by simp only [f241,B0,reduceIte,reduceEqDiff,hg260],f242,f243,f244⟩
  rintro fr289 h297 ⟨hS298,f290,f291,f292,f293,f294,f295,f296⟩
  simp only [List.drop_succ_cons,List.drop_zero]
  simp only [f290,qd,B0,reduceIte,reduceEqDiff]
  refine zw 14 (fun fr' h'=>Sep h' (geL h.length) ([])∧fr' 156 = .bool ((x200.Asks&&((x200.Grant||(!(zy x200.Last (-1) 100))) ||
    (!(zy x200.Long 0 30))))||((!x200.Asks)&&((decide (x200.Last≠0))||(decide (x200.Long≠0)))))∧fr' 1 = .ref [lst Server.cells v_0.Servers,
    lst Letter.cells v_0.Post,lst Vote.cells v_0.Led] 0∧fr' 3 = .ref [.int .i64
    (List.length v_0.Servers:Int)] 0∧fr' 84=lst Letter.cells v_0.Post∧fr' 85 = .int .i64 (List.length v_0.Post:Int)∧fr' 86 = .int .i64 (i199:Int))
    (fun Q299 hN300=>?_) ?_
  ·simp only [List.take_succ_cons,List.take_zero]
   simp only [qc (g:=142),B0,reduceIte,reduceEqDiff]
   refine qv (t:=(x200.Asks&&((x200.Grant||(!(zy x200.Last (-1) 100)))||(!(zy x200.Long 0 30))))) (fun hg301=>?_) (fun hg301=>?_)
   ·simp only [hg301,qc (g:=142),zn,qc (g:=146),k7,qc (g:=150),qp,qb,zh,qa,qk,B0,
     reduceIte,reduceEqDiff]
    exact hN300 _ _ ⟨hS298,by rw [orT hg301]; simp only [B0,reduceIte,reduceEqDiff],f291,f292,f294,f295,f296⟩
   ·simp only [hg301,qc (g:=142),qm,f293,qq,qb,Nat.reduceAdd,Nat.zero_add,Nat.add_zero,qr,ql,B0,reduceIte,reduceEqDiff]
    refine qg (v := .bool x200.Asks) rfl ?_
    simp only [hg301,qc (g:=142),qm,jf,qb,j5,qd,B0,reduceIte,reduceEqDiff]
    refine zw 9 (fun fr' h'=>Sep h' (geL h.length) ([])∧fr' 155 = .bool ((!x200.Asks)&&((decide (x200.Last≠0))||(decide
      (x200.Long≠0))))∧fr' 1 = .ref [lst Server.cells v_0.Servers,lst Letter.cells v_0.Post,
      lst Vote.cells v_0.Led] 0∧fr' 3 = .ref [.int .i64 (List.length v_0.Servers:Int)] 0∧fr' 84=lst Letter.cells v_0.Post∧fr' 85 = .int .i64
      (List.length v_0.Post:Int)∧fr' 86 = .int .i64 (i199:Int)∧fr' 142 = .bool (x200.Asks&&((x200.Grant||(!(zy x200.Last (-1) 100))) ||
      (!(zy x200.Long 0 30))))) (fun Q302 hN303=>?_) ?_
    ·simp only [List.take_succ_cons,List.take_zero]
     simp only [qc (g:=146),B0,reduceIte,reduceEqDiff]
     refine qv (t:=(!x200.Asks)) (fun hg304=>?_) (fun hg304=>?_)
     ·simp only [hg304,qc (g:=146),zd,f293,qq,qb,Nat.reduceAdd,Nat.zero_add,Nat.add_zero,qr,ql,B0,reduceIte,reduceEqDiff]
      refine qg (v := .int .i64 x200.Last) rfl ?_
      simp only [hg304,qc (g:=146),zd,qu,qb,qa7,qd,B0,reduceIte,reduceEqDiff]
      refine zw 4 (fun fr' h'=>Sep h' (geL h.length) ([])∧fr' 154 = .bool ((decide (x200.Last≠0))||(decide
        (x200.Long≠0)))∧fr' 1 = .ref [lst Server.cells v_0.Servers,lst Letter.cells v_0.Post,
        lst Vote.cells v_0.Led] 0∧fr' 3 = .ref [.int .i64 (List.length v_0.Servers:Int)] 0∧fr' 84=lst Letter.cells v_0.Post∧fr' 85 = .int .i64
        (List.length v_0.Post:Int)∧fr' 86 = .int .i64 (i199:Int)∧fr' 142 = .bool (x200.Asks&&((x200.Grant||(!(zy x200.Last (-1) 100))) ||
        (!(zy x200.Long 0 30))))∧fr' 146 = .bool (!x200.Asks)) (fun Q305 hN306=>?_) ?_
      ·simp only [List.take_succ_cons,List.take_zero]
       simp only [qc (g:=150),B0,reduceIte,reduceEqDiff]
       refine qv (t:=(decide (x200.Last≠0))) (fun hg307=>?_) (fun hg307=>?_)
       ·simp only [hg307,qc (g:=150),zn,hg304,qc (g:=146),zd,qp,qb,zh,qa,qk,B0,reduceIte,
         reduceEqDiff]
        exact hN306 _ _ ⟨hS298,by rw [orT hg307]; simp only [B0,reduceIte,reduceEqDiff],f291,f292,f294,f295,f296,by simp only [hg301,B0,reduceIte,
          reduceEqDiff],by simp only [hg304,B0,reduceIte,reduceEqDiff]⟩
       ·simp only [hg307,qc (g:=150),qm,f293,qq,qb,Nat.reduceAdd,Nat.zero_add,Nat.add_zero,qr,ql,B0,reduceIte,
         reduceEqDiff]
        refine qg (v := .int .i64 x200.Long) rfl ?_
        simp only [hg307,qc (g:=150),qm,qu,qb,qa7,hg304,qc (g:=146),zd,qp,zg,qa,qk,
          B0,reduceIte,reduceEqDiff]
        exact hN306 _ _ ⟨hS298,by rw [orF hg307]; simp only [B0,reduceIte,reduceEqDiff],f291,f292,f294,f295,f296,by simp only [hg301,B0,reduceIte,
          reduceEqDiff],by simp only [hg304,B0,reduceIte,reduceEqDiff]⟩
      rintro fr308 h317 ⟨hS318,f309,f310,f311,f312,f313,f314,f315,f316⟩
      simp only [List.drop_succ_cons,List.drop_zero]
      simp only [f315,hg301,qc (g:=142),qm,f316,hg304,qp,qb,zh,f309,qa,qk,B0,reduceIte,reduceEqDiff]
      exact hN303 _ _ ⟨hS318,by rw [wh hg304]; simp only [B0,reduceIte,reduceEqDiff],f310,f311,f312,f313,f314,by simp only [f315,hg301,B0,reduceIte,
        reduceEqDiff]⟩
     ·simp only [hg304,qc (g:=146),ji,qc (g:=150),k7,hg301,qc (g:=142),qm,qp,qb,zg,
       qa,qk,B0,reduceIte,reduceEqDiff]
      exact hN303 _ _ ⟨hS298,by rw [wj hg304]; simp only [B0,reduceIte,reduceEqDiff],f291,f292,f294,f295,f296,by simp only [hg301,B0,reduceIte,reduceEqDiff]⟩
    rintro fr319 h327 ⟨hS328,f320,f321,f322,f323,f324,f325,f326⟩
    simp only [List.drop_succ_cons,List.drop_zero]
    simp only [f326,hg301,qp,qb,zg,f320,qa,qk,B0,reduceIte,reduceEqDiff]
    exact hN300 _ _ ⟨hS328,by rw [orF hg301]; simp only [B0,reduceIte,reduceEqDiff],f321,f322,f323,f324,f325⟩
  rintro fr329 h336 ⟨hS337,f330,f331,f332,f333,f334,f335⟩
  simp only [List.drop_succ_cons,List.drop_zero]
  simp only [qa,f330,zb,B0,reduceIte,reduceEqDiff]
  refine zc (t:=((x200.Asks&&((x200.Grant||(!(zy x200.Last (-1) 100)))||(!(zy x200.Long 0 30))))||((!x200.Asks)&&((decide (x200.Last≠0)) ||
    (decide (x200.Long≠0)))))) (fun hc338=>?_) (fun hc338=>?_)
  ·rw [iteT hc338] at hF253
   simp only [qf,qe,qd,qa,qz,B0,reduceIte,reduceEqDiff]
   have e339:=qi hF253
   subst e339
   have ho340:=hr206 _ rfl
   have hk341:=hk204
   rw [ho340] at hk341
   dsimp only [jnO] at hk341
   apply hR210
   have he:=qi hk341
   subst he
   simp only [zm,B0,reduceIte,reduceEqDiff]
   exact rfl
  rw [iteF hc338] at hF253
  simp only [zf,qk,B0,reduceIte,reduceEqDiff]
  have e342:=qi hF253
  exact hN208 _ _ _ e342.symm ⟨f331,f332,f333,hS337⟩ (f335) (f334)
 rintro _ fr344 h345 rfl ⟨f347,f348,f349,hS346⟩
 dsimp only [jnO] at hk204
 unfold qer at hk204
 simp only [qt8,qf,qe,f347,qq,qb,Nat.reduceAdd,Nat.zero_add,Nat.add_zero,qr,ql,B0,reduceIte,reduceEqDiff]
 refine qg (v:=lst Vote.cells v_0.Led) rfl ?_
 obtain ⟨v350,hx351,hF352⟩:=qh hk204
 simp only [qnp,f348,qs,B0,reduceIte,reduceEqDiff]
 refine z9 rfl (qj zj (qj qkd qw)) (qe8 (fun b hb=>decide_eq_true hb) v_0.Led (g1:=101) (caps1:=[.ref [.int .i64
   (List.length v_0.Servers:Int)] 0]) rfl (fun a0=>some (ux a0 (List.length v_0.Servers:Int))) (fun W h hW a0 r hr=>qhz hW a0
   (List.length v_0.Servers:Int) r hr) v350 hx351) ?_
 simp only [jf,qb,j5,qd,qa,qz,B0,reduceIte,reduceEqDiff]
 have he:=qi hF352
 subst he
 simp only [zm,B0,reduceIte,reduceEqDiff]
 exact rfl
theorem qdy {W:Nat→Bool}{h:Heap} (hW:∀ b,
  (geL h.length) b→W b=true) (e_0:Election) (r:Bool) (hF:uz e_0=some r) : Ret E W 12 [.agg [lst Server.cells e_0.Servers,lst Letter.cells e_0.Post,
  lst Vote.cells e_0.Led]] h (fun v h'=>cut h.length h' E.sz false 9 v=some (.bool r)):=by
 refine Ret.of (fn:=x12) rfl (Run.of ?_)
 unfold uz at hF
 have zf0:ze [.agg [lst Server.cells e_0.Servers,lst Letter.cells e_0.Post,lst Vote.cells e_0.Led]] 0 = .agg [lst Server.cells e_0.Servers,lst Letter.cells e_0.Post,
   lst Vote.cells e_0.Led]:=rfl
 generalize ze [.agg [lst Server.cells e_0.Servers,lst Letter.cells e_0.Post,lst Vote.cells e_0.Led]]=fr0 at zf0 ⊢
 have hS:Sep h (geL h.length) []:=Sep.nil h
 simp only [x12,qf,qe,j7,zf0,B0,reduceIte,reduceEqDiff]
 refine jk (cs:=[lst Server.cells e_0.Servers,lst Letter.cells e_0.Post,lst Vote.cells e_0.Led]) hS rfl rfl rfl (fun b1 h2 hS3=>?_)
 simp only [qd,qa,B0,reduceIte,reduceEqDiff]
 refine zu hS3 hW (by simp only [B0,reduceIte,reduceEqDiff]) (fun h5 hS6=>?_)
 simp only [zq,qf,qe,ql,B0,reduceIte,reduceEqDiff]
 refine qg (v := .agg [lst Server.cells e_0.Servers,lst Letter.cells e_0.Post,lst Vote.cells e_0.Led]) rfl ?_
 obtain ⟨v7,hx8,hF9⟩:=qh hF
 simp only [qs,B0,reduceIte,reduceEqDiff]
 refine z9 rfl (qj (jj (qj zj (qj zj (qj zj qw)))) qw) (xm (fun b hb=>decide_eq_true hb) e_0 v7 hx8) ?_
 simp only [qd,qa,qz,B0,reduceIte,reduceEqDiff]
 have he:=qi hF9
 subst he
 simp only [zm,B0,reduceIte,reduceEqDiff]
 exact rfl
theorem qiq {W:Nat→Bool}{h:Heap} (hW:∀ b,
  (geL h.length) b→W b=true) (v_0:Vote) (cap_0:Int) (r:Bool) (hF:some (qat v_0 cap_0)=some r) : Ret E W 55 [.agg [.int .i64 v_0.Term,
  .int .i64 v_0.Leader],.ref (cI cap_0) 0] h (fun v h'=>cut h.length h' E.sz false 9 v=some (.bool r)):=by
 refine Ret.of (fn:=x55) rfl (Run.of ?_)
 unfold qat at hF
 have zf0:ze [.agg [.int .i64 v_0.Term,.int .i64 v_0.Leader],.ref (cI cap_0) 0] 0 = .agg [.int .i64 v_0.Term,.int .i64 v_0.Leader]:=rfl
 have zf1:ze [.agg [.int .i64 v_0.Term,.int .i64 v_0.Leader],.ref (cI cap_0) 0] 1 = .ref (cI cap_0) 0:=rfl
 generalize ze [.agg [.int .i64 v_0.Term,.int .i64 v_0.Leader],.ref (cI cap_0) 0]=fr0 at zf0 zf1 ⊢
 have hS:Sep h (geL h.length) []:=Sep.nil h
 simp only [x55,qf,qe,j7,zf0,B0,reduceIte,reduceEqDiff]
 refine jk (cs:=[.int .i64 v_0.Term,.int .i64 v_0.Leader]) hS rfl rfl rfl (fun b1 h2 hS3=>?_)
 simp only [qd,qa,B0,reduceIte,reduceEqDiff]
 refine zu hS3 hW (by simp only [B0,reduceIte,reduceEqDiff]) (fun h5 hS6=>?_)
 simp only [zq,qyy,qf,qe,qq,qb,Nat.reduceAdd,Nat.zero_add,Nat.add_zero,qr,ql,B0,reduceIte,reduceEqDiff]
 refine qg (v := .int .i64 v_0.Term) rfl ?_
 simp only [zf1,ql,B0,reduceIte,reduceEqDiff]
 refine qg (v := .int .i64 cap_0) rfl ?_
 simp only [qu,qb,ky,qd,qa,qz,B0,reduceIte,reduceEqDiff]
 have he:=qi hF
 subst he
 simp only [zm,B0,reduceIte,reduceEqDiff]
 exact rfl
end Go.Proofs.Ytpddolihbnfahaa.X
