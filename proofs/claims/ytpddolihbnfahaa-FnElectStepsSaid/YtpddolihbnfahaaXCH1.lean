/- The functions' code comes to what the plain functions say (1). -/
import Derived.Test.YtpddolihbnfahaaXCF
import Derived.Test.YtpddolihbnfahaaXCD
set_option linter.unusedVariables false
set_option linter.unusedSimpArgs false
set_option maxRecDepth 100000
namespace Go.Proofs.Ytpddolihbnfahaa.X
open Go
open Nat (reduceEqDiff)
def Server.R:Rep Server:=fun x cs os=>∃ (v4:XV) (c4:List Obj) (v5:XV) (c5:List Obj),SlF cI 1 3 v4 x.Got c4∧SlF cI 1 3 v5 x.Log c5∧cs=[.int .i64 x.Term,
  .int .i64 x.Voted,.bool x.Stands,.bool x.Leads,v4,v5]∧c4++(c5)=os
theorem Server.RI {x:Server}{v4:XV}{c4:List Obj}(h4:SlF cI 1 3 v4 x.Got c4){v5:XV}{c5:List Obj}(h5:SlF cI 1 3 v5 x.Log c5) : Server.R x [.int .i64 x.Term,
  .int .i64 x.Voted,.bool x.Stands,.bool x.Leads,v4,v5] (c4++(c5)):=⟨v4,c4,v5,c5,h4,h5,rfl,rfl⟩
theorem Server.RO:RepOk E.sz Server.R qi 6 where
 len:=fun {x cs os} H=>by
  obtain ⟨v4,c4,v5,c5,h4,h5,rfl,rfl⟩:=H
  rfl
 flen:=fun _=>rfl
 one:=fun {x cs os} H=>by
  obtain ⟨v4,c4,v5,c5,h4,h5,rfl,rfl⟩:=H
  exact (qq rfl (qq rfl (qq rfl (qq rfl (qq (SlF.one h4) (qq (SlF.one h5) zo))))))
 snap:=fun {x cs os h lo S} m H hS=>by
  obtain ⟨v4,c4,v5,c5,h4,h5,rfl,rfl⟩:=H
  have hS2:Sep h lo (c4++(c5++S)):=(by simpa only [List.append_assoc] using hS)
  exact (qm zb (qm zb (qm qe1 (qm qe1 (qm (SlF.snap h4 hS2 rfl (fun _=>rfl) (fun _=>rfl)) (qm (SlF.snap h5 (Sep.m1 hS2) rfl
    (fun _=>rfl) (fun _=>rfl)) qz))))))
 cut:=fun {x cs os h lo n0 keep S} m H hS hge=>by
  obtain ⟨v4,c4,v5,c5,h4,h5,rfl,rfl⟩:=H
  have hS2:Sep h lo (c4++(c5++S)):=(by simpa only [List.append_assoc] using hS)
  exact (qm rfl (qm rfl (qm rfl (qm rfl (qm (SlF.cut h4 hS2 hge rfl (fun _=>rfl) (fun _=>rfl)) (qm (SlF.cut h5 (Sep.m1 hS2) hge rfl (fun _=>rfl)
    (fun _=>rfl)) qz))))))
 free:=fun {x cs os} H=>by
  obtain ⟨v4,c4,v5,c5,h4,h5,rfl,rfl⟩:=H
  exact (qq rfl (qq rfl (qq rfl (qq rfl (qq (SlF.free1 h4) (qq (SlF.free1 h5) zo))))))
 pf:=fun {x cs os} H=>by
  obtain ⟨v4,c4,v5,c5,h4,h5,rfl,rfl⟩:=H
  exact (jq (SlF.pf h4 (fun _=>rfl)) (SlF.pf h5 (fun _=>rfl)))
def RL44:Rep (List Int):=fun x cs os=>∃ (v0:XV) (c0:List Obj),SlF cI 1 3 v0 x c0∧cs=[v0]∧c0=os
theorem RL44I {x:List Int}{v0:XV}{c0:List Obj}(h0:SlF cI 1 3 v0 x c0) : RL44 x [v0] (c0):=⟨v0,c0,h0,rfl,rfl⟩
theorem RL44O:RepOk E.sz RL44 (cL cI) 1 where
 len:=fun {x cs os} H=>by
  obtain ⟨v0,c0,h0,rfl,rfl⟩:=H
  rfl
 flen:=fun _=>rfl
 one:=fun {x cs os} H=>by
  obtain ⟨v0,c0,h0,rfl,rfl⟩:=H
  exact (qq (SlF.one h0) zo)
 snap:=fun {x cs os h lo S} m H hS=>by
  obtain ⟨v0,c0,h0,rfl,rfl⟩:=H
  have hS2:Sep h lo (c0++S):=(by simpa only [List.append_assoc] using hS)
  exact (qm (SlF.snap h0 hS2 rfl (fun _=>rfl) (fun _=>rfl)) qz)
 cut:=fun {x cs os h lo n0 keep S} m H hS hge=>by
  obtain ⟨v0,c0,h0,rfl,rfl⟩:=H
  have hS2:Sep h lo (c0++S):=(by simpa only [List.append_assoc] using hS)
  exact (qm (SlF.cut h0 hS2 hge rfl (fun _=>rfl) (fun _=>rfl)) qz)
 free:=fun {x cs os} H=>by
  obtain ⟨v0,c0,h0,rfl,rfl⟩:=H
  exact (qq (SlF.free1 h0) zo)
 pf:=fun {x cs os} H=>by
  obtain ⟨v0,c0,h0,rfl,rfl⟩:=H
  exact (SlF.pf h0 (fun _=>rfl))
theorem qjf {W:Nat→Bool}{h:Heap}{lo:Nat→Prop}{S0:List Obj} (hW:∀ b,
  lo b→W b=true) (pv0:XV) (pc0:List Obj) (s_0:List Int) (ph0:SlF cI 1 3 pv0 s_0 pc0) (i_1:Int) (pv2:XV) (pc2:List Obj) (v_2:List Int)
  (ph2:SlF cI 1 3 pv2 v_2 pc2) (r:List Int × List Int) (hF:qco s_0 i_1 v_2=some r) (hS:Sep h lo (pc0++(pc2++S0))) : Ret E W 115 [pv0,.int .i64 i_1,
  pv2] h (fun v h'=>∃ rv0 rc0 ic2,v=rv0∧SlF cI 1 3 rv0 r.1 rc0∧SlF cI 1 3 pv2 r.2 ic2∧Sep h' lo (rc0++(ic2++S0))):=zaq rfl rfl hW ph0 ph2 hF hS
theorem qfp {W:Nat→Bool}{h:Heap} (hW:∀ b,
  (geL h.length) b→W b=true) (a_0:List Int) (b_1:List Int) (r:Bool) (hF:qar a_0 b_1=some r) : Ret E W 19 [lst cI a_0,
  lst cI b_1] h (fun v h'=>cut h.length h' E.sz false 9 v=some (.bool r)):=by
 refine Ret.of (fn:=x19) rfl (Run.of ?_)
 unfold qar at hF
 have zf0:zh [lst cI a_0,lst cI b_1] 0=lst cI a_0:=rfl
 have zf1:zh [lst cI a_0,lst cI b_1] 1=lst cI b_1:=rfl
 generalize zh [lst cI a_0,lst cI b_1]=fr0 at zf0 zf1 ⊢
 have hS:Sep h (geL h.length) []:=Sep.nil h
 simp only [x19,qg,qf,qd,qa,q7a,zf0,zr,qb,zx,zf1,qx,qd1,ze,B0,reduceIte,reduceEqDiff]
 refine zf (t:=(decide ((List.length a_0:Int)≠(List.length b_1:Int)))) (fun hc1=>?_) (fun hc1=>?_)
 ·rw [iteT hc1] at hF
  simp only [qg,qf,qd,qa,za,B0,reduceIte,reduceEqDiff]
  have he:=qk hF
  subst he
  simp only [zp,B0,reduceIte,reduceEqDiff]
  exact rfl
 rw [iteF hc1] at hF
 simp only [zi,q3u,qg,qf,zf0,qd,zr,qb,zx,qa,B0,reduceIte,reduceEqDiff]
 obtain ⟨oc4,hX6,hk7⟩:=kn hF
 simp only [q4i]
 refine wb (σ:=Unit) a_0 (fun i2 x3 _=>qc2 b_1 i2 x3 ) (fun s fr' h'=>fr' 0=lst cI a_0∧fr' 1=lst cI b_1∧Sep h' (geL h.length) ([])) hX6 ⟨zf0,
   zf1,hS⟩ (by simp only [B0,reduceIte,reduceEqDiff]) (by simp only [B0,reduceIte,
   reduceEqDiff]) (fun _ _ _ h=>h) rfl rfl (fun _ _ _ _ h=>h) (fun _ _ _ _ h=>h) (fun _ _ _ _ h=>h) (by decide) ?_ ?_
 ·rintro i2 x3 _ fr16 h17 hx21 ⟨f19,f20,hS18⟩ f22 f23 oc5 hF8 hr9 Q10 hN11 hB15 hK12 hR13 hE14
  unfold qc2 at hF8
  simp only [q4s,qg,qf,f22,qd,qa,q3q,jv,f19,jf,qr,qee,B0,reduceIte,reduceEqDiff]
  refine qw (v := .ref (cI x3) 0) (wc hx21 rfl) ?_
  simp only [ja,B0,reduceIte,reduceEqDiff]
  refine qw (v := .int .i64 x3) rfl ?_
  obtain ⟨x24,hx25,hF26⟩:=qj hF8
  simp only [f20,jf,qr,qee,B0,reduceIte,reduceEqDiff]
  refine qw (v := .ref (cI x24) 0) (yl hx25 rfl) ?_
  simp only [ja,B0,reduceIte,reduceEqDiff]
  refine qw (v := .int .i64 x24) rfl ?_
  simp only [uv,qr,qd1,zn,ze,B0,reduceIte,reduceEqDiff]
  refine zf (t:=(decide (x3≠x24))) (fun hc27=>?_) (fun hc27=>?_)
  ·rw [iteT hc27] at hF26
   simp only [qg,qf,qd,qa,za,B0,reduceIte,reduceEqDiff]
   have e28:=qk hF26
   subst e28
   have ho29:=hr9 _ rfl
   have hk30:=hk7
   rw [ho29] at hk30
   dsimp only [jnO] at hk30
   apply hR13
   have he:=qk hk30
   subst he
   simp only [zp,B0,reduceIte,reduceEqDiff]
   exact rfl
  rw [iteF hc27] at hF26
  simp only [zi,qn,B0,reduceIte,reduceEqDiff]
  have e31:=qk hF26
  exact hN11 _ _ _ e31.symm ⟨f19,f20,hS18⟩ (f22) (f23)
 rintro _ fr33 h34 rfl ⟨f36,f37,hS35⟩
 dsimp only [jnO] at hk7
 unfold qhe at hk7
 simp only [qg,qf,qd,qa,za,B0,reduceIte,reduceEqDiff]
 have he:=qk hk7
 subst he
 simp only [zp,B0,reduceIte,reduceEqDiff]
 exact rfl
theorem qfg {W:Nat→Bool}{h:Heap} (hW:∀ b,
  (geL h.length) b→W b=true) (v_0:Election) (v_1:Election) (r:Bool) (hF:xw v_0 v_1=some r) : Ret E W 11 [.agg [lst qi v_0.Servers,
  lst qe v_0.Post,lst ql v_0.Led],.agg [lst qi v_1.Servers,lst qe v_1.Post,
  lst ql v_1.Led]] h (fun v h'=>cut h.length h' E.sz false 9 v=some (.bool r)):=by
 refine Ret.of (fn:=x11) rfl (Run.of ?_)
 unfold xw at hF
 have zf0:zh [.agg [lst qi v_0.Servers,lst qe v_0.Post,lst ql v_0.Led],.agg [lst qi v_1.Servers,lst qe v_1.Post,
   lst ql v_1.Led]] 0 = .agg [lst qi v_0.Servers,lst qe v_0.Post,lst ql v_0.Led]:=rfl
 have zf1:zh [.agg [lst qi v_0.Servers,lst qe v_0.Post,lst ql v_0.Led],.agg [lst qi v_1.Servers,lst qe v_1.Post,
   lst ql v_1.Led]] 1 = .agg [lst qi v_1.Servers,lst qe v_1.Post,lst ql v_1.Led]:=rfl
 generalize zh [.agg [lst qi v_0.Servers,lst qe v_0.Post,lst ql v_0.Led],.agg [lst qi v_1.Servers,lst qe v_1.Post,
   lst ql v_1.Led]]=fr0 at zf0 zf1 ⊢
 have hS:Sep h (geL h.length) []:=Sep.nil h
 simp only [x11,qg,qf,kc,zf0,B0,reduceIte,reduceEqDiff]
 refine jo (cs:=[lst qi v_0.Servers,lst qe v_0.Post,lst ql v_0.Led]) hS rfl rfl rfl (fun b1 h2 hS3=>?_)
 simp only [kc,zf1,B0,reduceIte,reduceEqDiff]
 refine jo (cs:=[lst qi v_1.Servers,lst qe v_1.Post,lst ql v_1.Led]) hS3 rfl rfl rfl (fun b5 h6 hS7=>?_)
 simp only [qd,qa,B0,reduceIte,reduceEqDiff]
 refine zy (Sep.m1 hS7) hW (by simp only [B0,reduceIte,reduceEqDiff]) (fun h9 hS10=>?_)
 refine zy hS10 hW (by simp only [B0,reduceIte,reduceEqDiff]) (fun h11 hS12=>?_)
 simp only [zv,qru,qg,qf,qt,qb,Nat.reduceAdd,Nat.zero_add,Nat.add_zero,qu,qo,B0,reduceIte,reduceEqDiff]
 refine qh (v:=lst qi v_0.Servers) rfl ?_
 simp only [zr,qb,zx,qt,Nat.reduceAdd,Nat.zero_add,Nat.add_zero,qu,qo,B0,reduceIte,reduceEqDiff]
 refine qh (v:=lst qi v_1.Servers) rfl ?_
 simp only [zr,qb,zx,qx,qd1,qd,B0,reduceIte,reduceEqDiff]
 refine z7 8 (fun fr' h'=>Sep h' (geL h.length) ([])∧fr' 25 = .bool ((decide ((List.length v_0.Servers:Int)≠(List.length v_1.Servers:Int)))||(decide
   ((List.length v_0.Post:Int)≠(List.length v_1.Post:Int))))∧fr' 2 = .ref [lst qi v_0.Servers,lst qe v_0.Post,
   lst ql v_0.Led] 0∧fr' 3 = .ref [lst qi v_1.Servers,lst qe v_1.Post,lst ql v_1.Led] 0) (fun Q13 hN14=>?_) ?_
 ·simp only [List.take_succ_cons,List.take_zero]
  simp only [qc (g:=17),B0,reduceIte,reduceEqDiff]
  refine qy (t:=(decide ((List.length v_0.Servers:Int)≠(List.length v_1.Servers:Int)))) (fun hg15=>?_) (fun hg15=>?_)
  ·simp only [hg15,qc (g:=17),zq,qs,qb,zj,qa,qn,B0,reduceIte,reduceEqDiff]
   exact hN14 _ _ ⟨hS12,by rw [orT hg15]; simp only [B0,reduceIte,reduceEqDiff],rfl,rfl⟩
  ·simp only [hg15,qc (g:=17),qp,qt,qb,Nat.reduceAdd,Nat.zero_add,Nat.add_zero,qu,qo,B0,reduceIte,reduceEqDiff]
   refine qh (v:=lst qe v_0.Post) rfl ?_
   simp only [hg15,qc (g:=17),qp,zr,qb,zx,qt,Nat.reduceAdd,Nat.zero_add,Nat.add_zero,qu,qo,B0,reduceIte,
     reduceEqDiff]
   refine qh (v:=lst qe v_1.Post) rfl ?_
   simp only [hg15,qc (g:=17),qp,zr,qb,zx,qx,qd1,qs,zk,qa,qn,B0,reduceIte,reduceEqDiff]
   exact hN14 _ _ ⟨hS12,by rw [orF hg15]; simp only [B0,reduceIte,reduceEqDiff],rfl,rfl⟩
 rintro fr16 h20 ⟨hS21,f17,f18,f19⟩
 simp only [List.drop_succ_cons,List.drop_zero]
 simp only [f17,qd,B0,reduceIte,reduceEqDiff]
 refine z7 8 (fun fr' h'=>Sep h' (geL h.length) ([])∧fr' 34 = .bool (((decide ((List.length v_0.Servers:Int)≠(List.length v_1.Servers:Int)))||(decide
   ((List.length v_0.Post:Int)≠(List.length v_1.Post:Int))))||(decide ((List.length v_0.Led:Int) ≠
   (List.length v_1.Led:Int))))∧fr' 2 = .ref [lst qi v_0.Servers,lst qe v_0.Post,
   lst ql v_0.Led] 0∧fr' 3 = .ref [lst qi v_1.Servers,lst qe v_1.Post,lst ql v_1.Led] 0) (fun Q22 hN23=>?_) ?_
 ·simp only [List.take_succ_cons,List.take_zero]
  simp only [qc (g:=26),B0,reduceIte,reduceEqDiff]
  refine qy (t:=((decide ((List.length v_0.Servers:Int)≠(List.length v_1.Servers:Int)))||(decide ((List.length v_0.Post:Int) ≠
    (List.length v_1.Post:Int))))) (fun hg24=>?_) (fun hg24=>?_)
  ·simp only [hg24,qc (g:=26),zq,qs,qb,zj,qa,qn,B0,reduceIte,reduceEqDiff]
   exact hN23 _ _ ⟨hS21,by rw [orT hg24]; simp only [B0,reduceIte,reduceEqDiff],f18,f19⟩
  ·simp only [hg24,qc (g:=26),qp,f18,qt,qb,Nat.reduceAdd,Nat.zero_add,Nat.add_zero,qu,qo,B0,reduceIte,reduceEqDiff]
   refine qh (v:=lst ql v_0.Led) rfl ?_
   simp only [hg24,qc (g:=26),qp,zr,qb,zx,f19,qt,Nat.reduceAdd,Nat.zero_add,Nat.add_zero,qu,qo,B0,reduceIte,
     reduceEqDiff]
   refine qh (v:=lst ql v_1.Led) rfl ?_
   simp only [hg24,qc (g:=26),qp,zr,qb,zx,qx,qd1,qs,zk,qa,qn,B0,reduceIte,reduceEqDiff]
   exact hN23 _ _ ⟨hS21,by rw [orF hg24]; simp only [B0,reduceIte,reduceEqDiff],f18,f19⟩
 rintro fr25 h29 ⟨hS30,f26,f27,f28⟩
 simp only [List.drop_succ_cons,List.drop_zero]
 simp only [qa,f26,ze,B0,reduceIte,reduceEqDiff]
 refine zf (t:=(((decide ((List.length v_0.Servers:Int)≠(List.length v_1.Servers:Int)))||(decide ((List.length v_0.Post:Int) ≠
   (List.length v_1.Post:Int))))||(decide ((List.length v_0.Led:Int)≠(List.length v_1.Led:Int))))) (fun hc31=>?_) (fun hc31=>?_)
 ·rw [iteT hc31] at hF
  simp only [qg,qf,qd,qa,za,B0,reduceIte,reduceEqDiff]
  have he:=qk hF
  subst he
  simp only [zp,B0,reduceIte,reduceEqDiff]
  exact rfl
 rw [iteF hc31] at hF
 simp only [zi,qwf,qg,qf,f27,qt,qb,Nat.reduceAdd,Nat.zero_add,Nat.add_zero,qu,qo,B0,reduceIte,reduceEqDiff]
 refine qh (v:=lst qi v_0.Servers) rfl ?_
 simp only [zr,qb,zx,qd,qa,B0,reduceIte,reduceEqDiff]
 obtain ⟨oc34,hX36,hk37⟩:=kn hF
 simp only [q30]
 refine qf1 (σ:=Unit) (fun i32 _=>xv v_0 v_1 i32 ) (fun s fr' h'=>fr' 2 = .ref [lst qi v_0.Servers,lst qe v_0.Post,
   lst ql v_0.Led] 0∧fr' 3 = .ref [lst qi v_1.Servers,lst qe v_1.Post,lst ql v_1.Led] 0∧Sep h' (geL h.length) ([])) hX36 ⟨f27,f28,
   hS30⟩ (by simp only [B0,reduceIte,reduceEqDiff]) (by simp only [B0,reduceIte,
   reduceEqDiff]) (fun _ _ _ h=>h) rfl rfl (fun _ _ _ _ h=>h) (fun _ _ _ _ h=>h) (fun _ _ _ _ h=>h) (by decide) ?_ ?_
 ·rintro i32 _ fr46 h47 hx51 ⟨f49,f50,hS48⟩ f52 f53 oc35 hF38 hr39 Q40 hN41 hB45 hK42 hR43 hE44
  unfold xv at hF38
  simp only [qzy,qg,qf,f52,qd,qa,q17,f49,qt,qb,Nat.reduceAdd,Nat.zero_add,Nat.add_zero,qu,qo,B0,reduceIte,
    reduceEqDiff]
  refine qh (v:=lst qi v_0.Servers) rfl ?_
  obtain ⟨x54,hx55,hF56⟩:=qj hF38
  simp only [qd,jr,B0,reduceIte,reduceEqDiff]
  refine qh (v := .ref (qi x54) 0) (yl hx55 rfl) ?_
  simp only [qo,B0,reduceIte,reduceEqDiff]
  refine qh (v := .agg [.int .i64 x54.Term,.int .i64 x54.Voted,.bool x54.Stands,.bool x54.Leads,lst cI x54.Got,lst cI x54.Log]) rfl ?_
  simp only [jg,B0,reduceIte,reduceEqDiff]
  refine zw hS48 (fun b57 h58 hS59=>?_)
  simp only [zl,B0,reduceIte,reduceEqDiff]
  refine q9 (us:=[.int .i64 x54.Term,.int .i64 x54.Voted,.bool x54.Stands,.bool x54.Leads,lst cI x54.Got,lst cI x54.Log]) rfl (cs':=[.int .i64 x54.Term,
    .int .i64 x54.Voted,.bool x54.Stands,.bool x54.Leads,lst cI x54.Got,lst cI x54.Log]) hS59 hW rfl rfl (nle rfl) rfl (fun h61 hS62=>?_)
  simp only [qa,B0,reduceIte,reduceEqDiff]
  refine zy hS62 hW (by simp only [B0,reduceIte,reduceEqDiff]) (fun h63 hS64=>?_)
  simp only [zv,q0m,qg,qf,f50,qt,qb,Nat.reduceAdd,Nat.zero_add,Nat.add_zero,qu,qo,B0,reduceIte,reduceEqDiff]
  refine qh (v:=lst qi v_1.Servers) rfl ?_
  obtain ⟨x65,hx66,hF67⟩:=qj hF56
  simp only [qd,jr,B0,reduceIte,reduceEqDiff]
  refine qh (v := .ref (qi x65) 0) (yl hx66 rfl) ?_
  simp only [qo,B0,reduceIte,reduceEqDiff]
  refine qh (v := .agg [.int .i64 x65.Term,.int .i64 x65.Voted,.bool x65.Stands,.bool x65.Leads,lst cI x65.Got,lst cI x65.Log]) rfl ?_
  simp only [jg,B0,reduceIte,reduceEqDiff]
  refine zw hS64 (fun b68 h69 hS70=>?_)
  simp only [zl,B0,reduceIte,reduceEqDiff]
  refine q9 (us:=[.int .i64 x65.Term,.int .i64 x65.Voted,.bool x65.Stands,.bool x65.Leads,lst cI x65.Got,lst cI x65.Log]) rfl (cs':=[.int .i64 x65.Term,
    .int .i64 x65.Voted,.bool x65.Stands,.bool x65.Leads,lst cI x65.Got,lst cI x65.Log]) hS70 hW rfl rfl (nle rfl) rfl (fun h72 hS73=>?_)
  simp only [qa,B0,reduceIte,reduceEqDiff]
  refine zy hS73 hW (by simp only [B0,reduceIte,reduceEqDiff]) (fun h74 hS75=>?_)
  simp only [zv,q37,qg,qf,qt,qb,Nat.reduceAdd,Nat.zero_add,Nat.add_zero,qu,qo,B0,reduceIte,reduceEqDiff]
  refine qh (v := .int .i64 x54.Term) rfl ?_
  simp only [qt,qb,Nat.reduceAdd,Nat.zero_add,Nat.add_zero,qu,qo,B0,reduceIte,reduceEqDiff]
  refine qh (v := .int .i64 x65.Term) rfl ?_
  simp only [qx,qb,qd1,qd,B0,reduceIte,reduceEqDiff]
  refine z7 6 (fun fr' h'=>Sep h' (geL h.length) ([])∧fr' 62 = .bool ((decide (x54.Term≠x65.Term))||(decide
    (x54.Voted≠x65.Voted)))∧fr' 2 = .ref [lst qi v_0.Servers,lst qe v_0.Post,lst ql v_0.Led] 0∧fr' 3 = .ref [lst qi v_1.Servers,
    lst qe v_1.Post,lst ql v_1.Led] 0∧fr' 6 = .ref [.int .i64 x54.Term,.int .i64 x54.Voted,.bool x54.Stands,.bool x54.Leads,lst cI x54.Got,
    lst cI x54.Log] 0∧fr' 7 = .ref [.int .i64 x65.Term,.int .i64 x65.Voted,.bool x65.Stands,.bool x65.Leads,lst cI x65.Got,
    lst cI x65.Log] 0∧fr' 37 = .int .i64 (List.length v_0.Servers:Int)∧fr' 38 = .int .i64 (i32:Int)) (fun Q76 hN77=>?_) ?_
  ·simp only [List.take_succ_cons,List.take_zero]
   simp only [qc (g:=56),B0,reduceIte,reduceEqDiff]
   refine qy (t:=(decide (x54.Term≠x65.Term))) (fun hg78=>?_) (fun hg78=>?_)
   ·simp only [hg78,qc (g:=56),zq,qs,qb,zj,qa,qn,B0,reduceIte,reduceEqDiff]
    exact hN77 _ _ ⟨hS75,by rw [orT hg78]; simp only [B0,reduceIte,reduceEqDiff],f49,f50,rfl,rfl,f53,f52⟩
   ·simp only [hg78,qc (g:=56),qp,qt,qb,Nat.reduceAdd,Nat.zero_add,Nat.add_zero,qu,qo,B0,reduceIte,reduceEqDiff]
    refine qh (v := .int .i64 x54.Voted) rfl ?_
    simp only [hg78,qc (g:=56),qp,qt,qb,Nat.reduceAdd,Nat.zero_add,Nat.add_zero,qu,qo,B0,reduceIte,reduceEqDiff]
    refine qh (v := .int .i64 x65.Voted) rfl ?_
    simp only [hg78,qc (g:=56),qp,qx,qb,qd1,qs,zk,qa,qn,B0,reduceIte,reduceEqDiff]
    exact hN77 _ _ ⟨hS75,by rw [orF hg78]; simp only [B0,reduceIte,reduceEqDiff],f49,f50,rfl,rfl,f53,f52⟩
  rintro fr79 h87 ⟨hS88,f80,f81,f82,f83,f84,f85,f86⟩
  simp only [List.drop_succ_cons,List.drop_zero]
  simp only [f80,qd,B0,reduceIte,reduceEqDiff]
  refine z7 6 (fun fr' h'=>Sep h' (geL h.length) ([])∧fr' 69 = .bool (((decide (x54.Term≠x65.Term))||(decide (x54.Voted≠x65.Voted))) ||
    (!(x54.Stands == x65.Stands)))∧fr' 2 = .ref [lst qi v_0.Servers,lst qe v_0.Post,
    lst ql v_0.Led] 0∧fr' 3 = .ref [lst qi v_1.Servers,lst qe v_1.Post,lst ql v_1.Led] 0∧fr' 6 = .ref [.int .i64 x54.Term,
    .int .i64 x54.Voted,.bool x54.Stands,.bool x54.Leads,lst cI x54.Got,lst cI x54.Log] 0∧fr' 7 = .ref [.int .i64 x65.Term,.int .i64 x65.Voted,.bool x65.Stands,
    .bool x65.Leads,lst cI x65.Got,lst cI x65.Log] 0∧fr' 37 = .int .i64 (List.length v_0.Servers:Int)∧fr' 38 = .int .i64 (i32:Int)) (fun Q89 hN90=>?_) ?_
  ·simp only [List.take_succ_cons,List.take_zero]
   simp only [qc (g:=63),B0,reduceIte,reduceEqDiff]
   refine qy (t:=((decide (x54.Term≠x65.Term))||(decide (x54.Voted≠x65.Voted)))) (fun hg91=>?_) (fun hg91=>?_)
   ·simp only [hg91,qc (g:=63),zq,qs,qb,zj,qa,qn,B0,reduceIte,reduceEqDiff]
    exact hN90 _ _ ⟨hS88,by rw [orT hg91]; simp only [B0,reduceIte,reduceEqDiff],f81,f82,f83,f84,f85,f86⟩
   ·simp only [hg91,qc (g:=63),qp,f83,qt,qb,Nat.reduceAdd,Nat.zero_add,Nat.add_zero,qu,qo,B0,reduceIte,reduceEqDiff]
    refine qh (v := .bool x54.Stands) rfl ?_
    simp only [hg91,qc (g:=63),qp,f84,qt,qb,Nat.reduceAdd,Nat.zero_add,Nat.add_zero,qu,qo,B0,reduceIte,reduceEqDiff]
    refine qh (v := .bool x65.Stands) rfl ?_
    simp only [hg91,qc (g:=63),qp,qe7,qb,qem,qs,zk,qa,qn,B0,reduceIte,reduceEqDiff]
    exact hN90 _ _ ⟨hS88,by rw [orF hg91]; simp only [B0,reduceIte,reduceEqDiff],f81,f82,f83,f84,f85,f86⟩
  rintro fr92 h100 ⟨hS101,f93,f94,f95,f96,f97,f98,f99⟩
  simp only [List.drop_succ_cons,List.drop_zero]
  simp only [f93,qd,B0,reduceIte,reduceEqDiff]
  refine z7 6 (fun fr' h'=>Sep h' (geL h.length) ([])∧fr' 76 = .bool ((((decide (x54.Term≠x65.Term))||(decide (x54.Voted≠x65.Voted))) ||
    (!(x54.Stands == x65.Stands)))||(!(x54.Leads == x65.Leads)))∧fr' 2 = .ref [lst qi v_0.Servers,lst qe v_0.Post,
    lst ql v_0.Led] 0∧fr' 3 = .ref [lst qi v_1.Servers,lst qe v_1.Post,lst ql v_1.Led] 0∧fr' 6 = .ref [.int .i64 x54.Term,
    .int .i64 x54.Voted,.bool x54.Stands,.bool x54.Leads,lst cI x54.Got,lst cI x54.Log] 0∧fr' 7 = .ref [.int .i64 x65.Term,.int .i64 x65.Voted,.bool x65.Stands,
    .bool x65.Leads,lst cI x65.Got,lst cI x65.Log] 0∧fr' 37 = .int .i64 (List.length v_0.Servers:Int)∧fr' 38 = .int .i64 (i32:Int)) (fun Q102 hN103=>?_) ?_
  ·simp only [List.take_succ_cons,List.take_zero]
   simp only [qc (g:=70),B0,reduceIte,reduceEqDiff]
   refine qy (t:=(((decide (x54.Term≠x65.Term))||(decide (x54.Voted≠x65.Voted)))||(!(x54.Stands == x65.Stands)))) (fun hg104=>?_) (fun hg104=>?_)
   ·simp only [hg104,qc (g:=70),zq,qs,qb,zj,qa,qn,B0,reduceIte,reduceEqDiff]
    exact hN103 _ _ ⟨hS101,by rw [orT hg104]; simp only [B0,reduceIte,reduceEqDiff],f94,f95,f96,f97,f98,f99⟩
   ·simp only [hg104,qc (g:=70),qp,f96,qt,qb,Nat.reduceAdd,Nat.zero_add,Nat.add_zero,qu,qo,B0,reduceIte,reduceEqDiff]
    refine qh (v := .bool x54.Leads) rfl ?_
    simp only [hg104,qc (g:=70),qp,f97,qt,qb,Nat.reduceAdd,Nat.zero_add,Nat.add_zero,qu,qo,B0,reduceIte,reduceEqDiff]
    refine qh (v := .bool x65.Leads) rfl ?_
    simp only [hg104,qc (g:=70),qp,qe7,qb,qem,qs,zk,qa,qn,B0,reduceIte,reduceEqDiff]
    exact hN103 _ _ ⟨hS101,by rw [orF hg104]; simp only [B0,reduceIte,reduceEqDiff],f94,f95,f96,f97,f98,f99⟩
  rintro fr105 h113 ⟨hS114,f106,f107,f108,f109,f110,f111,f112⟩
  simp only [List.drop_succ_cons,List.drop_zero]
  simp only [f106,qd,B0,reduceIte,reduceEqDiff]
  obtain ⟨v118,hx119,hF120⟩:=qj hF67
  refine z7 7 (fun fr' h'=>Sep h' (geL h.length) ([])∧fr' 84 = .bool v118∧fr' 2 = .ref [lst qi v_0.Servers,lst qe v_0.Post,
    lst ql v_0.Led] 0∧fr' 3 = .ref [lst qi v_1.Servers,lst qe v_1.Post,lst ql v_1.Led] 0∧fr' 6 = .ref [.int .i64 x54.Term,
    .int .i64 x54.Voted,.bool x54.Stands,.bool x54.Leads,lst cI x54.Got,lst cI x54.Log] 0∧fr' 7 = .ref [.int .i64 x65.Term,.int .i64 x65.Voted,.bool x65.Stands,
    .bool x65.Leads,lst cI x65.Got,lst cI x65.Log] 0∧fr' 37 = .int .i64 (List.length v_0.Servers:Int)∧fr' 38 = .int .i64 (i32:Int)) (fun Q115 hN116=>?_) ?_
  ·simp only [List.take_succ_cons,List.take_zero]
   simp only [qc (g:=77),B0,reduceIte,reduceEqDiff]
   refine qy (t:=((((decide (x54.Term≠x65.Term))||(decide (x54.Voted≠x65.Voted)))||(!(x54.Stands == x65.Stands)))||(!(x54.Leads == x65.Leads))))
     (fun hg117=>?_) (fun hg117=>?_)
   ·rw [iteT hg117] at hx119
    simp only [hg117,qc (g:=77),zq,qs,qb,zj,qa,qn,B0,reduceIte,reduceEqDiff]
    have e121:=qk hx119
    exact hN116 _ _ ⟨hS114,by rw [←e121]; simp only [B0,reduceIte,reduceEqDiff],f107,f108,f109,f110,f111,f112⟩
   ·rw [iteF hg117] at hx119
    simp only [hg117,qc (g:=77),qp,f109,qt,qb,Nat.reduceAdd,Nat.zero_add,Nat.add_zero,qu,qo,B0,reduceIte,reduceEqDiff]
    refine qh (v:=lst cI x54.Got) rfl ?_
    simp only [hg117,qc (g:=77),qp,f110,qt,qb,Nat.reduceAdd,Nat.zero_add,Nat.add_zero,qu,qo,B0,reduceIte,reduceEqDiff]
    refine qh (v:=lst cI x65.Got) rfl ?_
    obtain ⟨v122,hx123,hF124⟩:=qj hx119
    simp only [hg117,qc (g:=77),qp,qv,B0,reduceIte,reduceEqDiff]
    refine je rfl (qm zm (qm zm qz)) (qfp (fun b hb=>decide_eq_true hb) x54.Got x65.Got v122 hx123) ?_
    simp only [hg117,qc (g:=77),qp,jj,qb,j9,qs,zk,qa,qn,B0,reduceIte,reduceEqDiff]
    have e125:=qk hF124
    exact hN116 _ _ ⟨hS114,by rw [←e125]; simp only [B0,reduceIte,reduceEqDiff],f107,f108,f109,f110,f111,f112⟩
  rintro fr126 h134 ⟨hS135,f127,f128,f129,f130,f131,f132,f133⟩
  simp only [List.drop_succ_cons,List.drop_zero]
  simp only [f127,qd,B0,reduceIte,reduceEqDiff]
  obtain ⟨v139,hx140,hF141⟩:=qj hF120
  refine z7 7 (fun fr' h'=>Sep h' (geL h.length) ([])∧fr' 92 = .bool v139∧fr' 2 = .ref [lst qi v_0.Servers,lst qe v_0.Post,
    lst ql v_0.Led] 0∧fr' 3 = .ref [lst qi v_1.Servers,lst qe v_1.Post,
    lst ql v_1.Led] 0∧fr' 37 = .int .i64 (List.length v_0.Servers:Int)∧fr' 38 = .int .i64 (i32:Int)) (fun Q136 hN137=>?_) ?_
  ·simp only [List.take_succ_cons,List.take_zero]
   simp only [qc (g:=85),B0,reduceIte,reduceEqDiff]
   refine qy (t:=v118) (fun hg138=>?_) (fun hg138=>?_)
   ·rw [iteT hg138] at hx140
    simp only [hg138,qc (g:=85),zq,qs,qb,zj,qa,qn,B0,reduceIte,reduceEqDiff]
    have e142:=qk hx140
    exact hN137 _ _ ⟨hS135,by rw [←e142]; simp only [B0,reduceIte,reduceEqDiff],f128,f129,f132,f133⟩
   ·rw [iteF hg138] at hx140
    simp only [hg138,qc (g:=85),qp,f130,qt,qb,Nat.reduceAdd,Nat.zero_add,Nat.add_zero,qu,qo,B0,reduceIte,reduceEqDiff]
    refine qh (v:=lst cI x54.Log) rfl ?_
    simp only [hg138,qc (g:=85),qp,f131,qt,qb,Nat.reduceAdd,Nat.zero_add,Nat.add_zero,qu,qo,B0,reduceIte,reduceEqDiff]
    refine qh (v:=lst cI x65.Log) rfl ?_
    obtain ⟨v143,hx144,hF145⟩:=qj hx140
    simp only [hg138,qc (g:=85),qp,qv,B0,reduceIte,reduceEqDiff]
    refine je rfl (qm zm (qm zm qz)) (qfp (fun b hb=>decide_eq_true hb) x54.Log x65.Log v143 hx144) ?_
    simp only [hg138,qc (g:=85),qp,jj,qb,j9,qs,zk,qa,qn,B0,reduceIte,reduceEqDiff]
    have e146:=qk hF145
    exact hN137 _ _ ⟨hS135,by rw [←e146]; simp only [B0,reduceIte,reduceEqDiff],f128,f129,f132,f133⟩
  rintro fr147 h153 ⟨hS154,f148,f149,f150,f151,f152⟩
  simp only [List.drop_succ_cons,List.drop_zero]
  simp only [qa,f148,ze,B0,reduceIte,reduceEqDiff]
  refine zf (t:=v139) (fun hc155=>?_) (fun hc155=>?_)
  ·rw [iteT hc155] at hF141
   simp only [qg,qf,qd,qa,za,B0,reduceIte,reduceEqDiff]
   have e156:=qk hF141
   subst e156
   have ho157:=hr39 _ rfl
   have hk158:=hk37
   rw [ho157] at hk158
   dsimp only [jnO] at hk158
   apply hR43
   have he:=qk hk158
   subst he
   simp only [zp,B0,reduceIte,reduceEqDiff]
   exact rfl
  rw [iteF hc155] at hF141
  simp only [zi,qn,B0,reduceIte,reduceEqDiff]
  have e159:=qk hF141
  exact hN41 _ _ _ e159.symm ⟨f149,f150,hS154⟩ (f152) (f151)
 rintro _ fr161 h162 rfl ⟨f164,f165,hS163⟩
 dsimp only [jnO] at hk37
 unfold qcz at hk37
 simp only [qve,qg,qf,f164,qt,qb,Nat.reduceAdd,Nat.zero_add,Nat.add_zero,qu,qo,B0,reduceIte,reduceEqDiff]
 refine qh (v:=lst qe v_0.Post) rfl ?_
 simp only [zr,qb,zx,qd,qa,B0,reduceIte,reduceEqDiff]
 obtain ⟨oc168,hX170,hk171⟩:=kn hk37
 simp only [qx6]
 refine qf1 (σ:=Unit) (fun i166 _=>xz v_0 v_1 i166 ) (fun s fr' h'=>fr' 2 = .ref [lst qi v_0.Servers,lst qe v_0.Post,
   lst ql v_0.Led] 0∧fr' 3 = .ref [lst qi v_1.Servers,lst qe v_1.Post,lst ql v_1.Led] 0∧Sep h' (geL h.length) ([])) hX170 ⟨f164,f165,
   hS163⟩ (by simp only [B0,reduceIte,reduceEqDiff]) (by simp only [B0,reduceIte,
   reduceEqDiff]) (fun _ _ _ h=>h) rfl rfl (fun _ _ _ _ h=>h) (fun _ _ _ _ h=>h) (fun _ _ _ _ h=>h) (by decide) ?_ ?_
 ·rintro i166 _ fr180 h181 hx185 ⟨f183,f184,hS182⟩ f186 f187 oc169 hF172 hr173 Q174 hN175 hB179 hK176 hR177 hE178
  unfold xz at hF172
  simp only [q1l,qg,qf,f186,qd,qa,q7f,jv,f183,jc,qr,Nat.reduceAdd,Nat.zero_add,Nat.add_zero,qu,ja,B0,
    reduceIte,reduceEqDiff]
  refine qw (v:=lst qe v_0.Post) rfl ?_
  obtain ⟨x188,hx189,hF190⟩:=qj hF172
  simp only [jf,qr,qee,B0,reduceIte,reduceEqDiff]
  refine qw (v := .ref (qe x188) 0) (yl hx189 rfl) ?_
  simp only [ja,B0,reduceIte,reduceEqDiff]
  refine qw (v := .agg [.int .i64 x188.To,.int .i64 x188.From,.int .i64 x188.Term,.bool x188.Asks,.int .i64 x188.Last,.int .i64 x188.Long,.bool x188.Grant]) rfl ?_
  simp only [f184,jc,qr,Nat.reduceAdd,Nat.zero_add,Nat.add_zero,qu,ja,B0,reduceIte,reduceEqDiff]
  refine qw (v:=lst qe v_1.Post) rfl ?_
  obtain ⟨x191,hx192,hF193⟩:=qj hF190
  simp only [jf,qr,qee,B0,reduceIte,reduceEqDiff]
  refine qw (v := .ref (qe x191) 0) (yl hx192 rfl) ?_
  simp only [ja,B0,reduceIte,reduceEqDiff]
  refine qw (v := .agg [.int .i64 x191.To,.int .i64 x191.From,.int .i64 x191.Term,.bool x191.Asks,.int .i64 x191.Last,.int .i64 x191.Long,.bool x191.Grant]) rfl ?_
  simp only [qxq,B0,reduceIte,reduceEqDiff]
  refine qw (v := .bool (!((x188.To == x191.To)&&((x188.From == x191.From)&&((x188.Term == x191.Term)&&((x188.Asks == x191.Asks)&&((x188.Last == x191.Last) &&
    ((x188.Long == x191.Long)&&((x188.Grant == x191.Grant)&&true))))))))) rfl ?_
  simp only [zn,ze,B0,reduceIte,reduceEqDiff]
  refine zf (t:=(!((x188.To == x191.To)&&((x188.From == x191.From)&&((x188.Term == x191.Term)&&((x188.Asks == x191.Asks)&&((x188.Last == x191.Last) &&
    ((x188.Long == x191.Long)&&((x188.Grant == x191.Grant)&&true))))))))) (fun hc194=>?_) (fun hc194=>?_)
  ·rw [iteT hc194] at hF193
   simp only [qg,qf,qd,qa,za,B0,reduceIte,reduceEqDiff]
   have e195:=qk hF193
   subst e195
   have ho196:=hr173 _ rfl
   have hk197:=hk171
   rw [ho196] at hk197
   dsimp only [jnO] at hk197
   apply hR177
   have he:=qk hk197
   subst he
   simp only [zp,B0,reduceIte,reduceEqDiff]
   exact rfl
  rw [iteF hc194] at hF193
  simp only [zi,qn,B0,reduceIte,reduceEqDiff]
  have e198:=qk hF193
  exact hN175 _ _ _ e198.symm ⟨f183,f184,hS182⟩ (f186) (f187)
 rintro _ fr200 h201 rfl ⟨f203,f204,hS202⟩
 dsimp only [jnO] at hk171
 unfold qcr at hk171
 simp only [qxy,qg,qf,f203,qt,qb,Nat.reduceAdd,Nat.zero_add,Nat.add_zero,qu,qo,B0,reduceIte,reduceEqDiff]
 refine qh (v:=lst ql v_0.Led) rfl ?_
 simp only [zr,qb,zx,qd,qa,B0,reduceIte,reduceEqDiff]
 obtain ⟨oc207,hX209,hk210⟩:=kn hk171
 simp only [qvl]
 refine qf1 (σ:=Unit) (fun i205 _=>xy v_0 v_1 i205 ) (fun s fr' h'=>fr' 2 = .ref [lst qi v_0.Servers,lst qe v_0.Post,
   lst ql v_0.Led] 0∧fr' 3 = .ref [lst qi v_1.Servers,lst qe v_1.Post,lst ql v_1.Led] 0∧Sep h' (geL h.length) ([])) hX209 ⟨f203,f204,
   hS202⟩ (by simp only [B0,reduceIte,reduceEqDiff]) (by simp only [B0,reduceIte,
   reduceEqDiff]) (fun _ _ _ h=>h) rfl rfl (fun _ _ _ _ h=>h) (fun _ _ _ _ h=>h) (fun _ _ _ _ h=>h) (by decide) ?_ ?_
 ·rintro i205 _ fr219 h220 hx224 ⟨f222,f223,hS221⟩ f225 f226 oc208 hF211 hr212 Q213 hN214 hB218 hK215 hR216 hE217
  unfold xy at hF211
  simp only [qw9,qg,qf,f225,qd,qa,que,jv,f222,jc,qr,Nat.reduceAdd,Nat.zero_add,Nat.add_zero,qu,ja,B0,
    reduceIte,reduceEqDiff]
  refine qw (v:=lst ql v_0.Led) rfl ?_
  obtain ⟨x227,hx228,hF229⟩:=qj hF211
  simp only [jf,qr,qee,B0,reduceIte,reduceEqDiff]
  refine qw (v := .ref (ql x227) 0) (yl hx228 rfl) ?_
  simp only [ja,B0,reduceIte,reduceEqDiff]
  refine qw (v := .agg [.int .i64 x227.Term,.int .i64 x227.Leader]) rfl ?_
  simp only [f223,jc,qr,Nat.reduceAdd,Nat.zero_add,Nat.add_zero,qu,ja,B0,reduceIte,reduceEqDiff]
  refine qw (v:=lst ql v_1.Led) rfl ?_
  obtain ⟨x230,hx231,hF232⟩:=qj hF229
  simp only [jf,qr,qee,B0,reduceIte,reduceEqDiff]
  refine qw (v := .ref (ql x230) 0) (yl hx231 rfl) ?_
  simp only [ja,B0,reduceIte,reduceEqDiff]
  refine qw (v := .agg [.int .i64 x230.Term,.int .i64 x230.Leader]) rfl ?_
  simp only [qxq,B0,reduceIte,reduceEqDiff]
  refine qw (v := .bool (!((x227.Term == x230.Term)&&((x227.Leader == x230.Leader)&&true)))) rfl ?_
  simp only [zn,ze,B0,reduceIte,reduceEqDiff]
  refine zf (t:=(!((x227.Term == x230.Term)&&((x227.Leader == x230.Leader)&&true)))) (fun hc233=>?_) (fun hc233=>?_)
  ·rw [iteT hc233] at hF232
   simp only [qg,qf,qd,qa,za,B0,reduceIte,reduceEqDiff]
   have e234:=qk hF232
   subst e234
   have ho235:=hr212 _ rfl
   have hk236:=hk210
   rw [ho235] at hk236
   dsimp only [jnO] at hk236
   apply hR216
   have he:=qk hk236
   subst he
   simp only [zp,B0,reduceIte,reduceEqDiff]
   exact rfl
  rw [iteF hc233] at hF232
  simp only [zi,qn,B0,reduceIte,reduceEqDiff]
  have e237:=qk hF232
  exact hN214 _ _ _ e237.symm ⟨f222,f223,hS221⟩ (f225) (f226)
 rintro _ fr239 h240 rfl ⟨f242,f243,hS241⟩
 dsimp only [jnO] at hk210
 unfold qe6 at hk210
 simp only [qg,qf,qd,qa,za,B0,reduceIte,reduceEqDiff]
 have he:=qk hk210
 subst he
 simp only [zp,B0,reduceIte,reduceEqDiff]
 exact rfl
theorem wi {W:Nat→Bool}{h:Heap} (hW:∀ b,
  (geL h.length) b→W b=true) (n_0:Int) (low_1:Int) (high_2:Int) (r:Bool) (hF:some (zt n_0 low_1 high_2)=some r) : Ret E W 56 [.int .i64 n_0,
  .int .i64 low_1,.int .i64 high_2] h (fun v h'=>cut h.length h' E.sz false 9 v=some (.bool r)):=by
 refine Ret.of (fn:=x56) rfl (Run.of ?_)
 unfold zt at hF
 have zf0:zh [.int .i64 n_0,.int .i64 low_1,.int .i64 high_2] 0 = .int .i64 n_0:=rfl
 have zf1:zh [.int .i64 n_0,.int .i64 low_1,.int .i64 high_2] 1 = .int .i64 low_1:=rfl
 have zf2:zh [.int .i64 n_0,.int .i64 low_1,.int .i64 high_2] 2 = .int .i64 high_2:=rfl
 generalize zh [.int .i64 n_0,.int .i64 low_1,.int .i64 high_2]=fr0 at zf0 zf1 zf2 ⊢
 have hS:Sep h (geL h.length) []:=Sep.nil h
 simp only [x56,qg,qf,qd,qa,qzw,zf0,zf1,qx,qb,qh4,B0,reduceIte,reduceEqDiff]
 refine z7 4 (fun fr' h'=>Sep h' (geL h.length) ([])∧fr' 14 = .bool ((decide (low_1≤n_0))&&(decide (n_0≤high_2)))) (fun Q1 hN2=>?_) ?_
 ·simp only [List.take_succ_cons,List.take_zero]
  simp only [qc (g:=10),B0,reduceIte,reduceEqDiff]
  refine qy (t:=(decide (low_1≤n_0))) (fun hg3=>?_) (fun hg3=>?_)
  ·simp only [hg3,qc (g:=10),zg,zf0,qd,zf2,qx,qb,qju,qs,zj,qa,qn,B0,reduceIte,reduceEqDiff]
   exact hN2 _ _ ⟨hS,by rw [xl hg3]; simp only [B0,reduceIte,reduceEqDiff]⟩
  ·simp only [hg3,qc (g:=10),jl,qs,qb,zk,qa,qn,B0,reduceIte,reduceEqDiff]
   exact hN2 _ _ ⟨hS,by rw [xm hg3]; simp only [B0,reduceIte,reduceEqDiff]⟩
 rintro fr4 h6 ⟨hS7,f5⟩
 simp only [List.drop_succ_cons,List.drop_zero]
 simp only [f5,qd,qa,za,B0,reduceIte,reduceEqDiff]
 have he:=qk hF
 subst he
 simp only [zp,B0,reduceIte,reduceEqDiff]
 exact rfl
theorem qcn {W:Nat→Bool}{h:Heap} (hW:∀ b,
  (geL h.length) b→W b=true) (l_0:List Int) (r:Bool) (hF:w9 l_0=some r) : Ret E W 68 [lst cI l_0] h (fun v h'=>cut h.length h' E.sz false 9 v=some
  (.bool r)):=by
 refine Ret.of (fn:=x68) rfl (Run.of ?_)
 unfold w9 at hF
 have zf0:zh [lst cI l_0] 0=lst cI l_0:=rfl
 generalize zh [lst cI l_0]=fr0 at zf0 ⊢
 have hS:Sep h (geL h.length) []:=Sep.nil h
 simp only [x68,qg,qf,qd,qa,q47,zf0,zr,qb,zx,B0,reduceIte,reduceEqDiff]
 obtain ⟨oc3,hX5,hk6⟩:=kn hF
 simp only [q20]
 refine wb (σ:=Unit) l_0 (fun i1 x2 _=>qb6 l_0 i1 x2 ) (fun s fr' h'=>fr' 0=lst cI l_0∧fr' 5=lst cI l_0∧Sep h' (geL h.length) ([])) hX5 ⟨zf0,
   rfl,hS⟩ (by simp only [B0,reduceIte,reduceEqDiff]) (by simp only [B0,reduceIte,
   reduceEqDiff]) (fun _ _ _ h=>h) rfl rfl (fun _ _ _ _ h=>h) (fun _ _ _ _ h=>h) (fun _ _ _ _ h=>h) (by decide) ?_ ?_
 ·rintro i1 x2 _ fr15 h16 hx20 ⟨f18,f19,hS17⟩ f21 f22 oc4 hF7 hr8 Q9 hN10 hB14 hK11 hR12 hE13
  unfold qb6 at hF7
  simp only [q06,qg,qf,f21,qd,f19,jr,B0,reduceIte,reduceEqDiff]
  refine qh (v := .ref (cI x2) 0) (wc hx20 rfl) ?_
  simp only [qo,B0,reduceIte,reduceEqDiff]
  refine qh (v := .int .i64 x2) rfl ?_
  simp only [qd,qa,q58,qg,qf,qv,B0,reduceIte,reduceEqDiff]
  refine je rfl (qm zb (qm zb (qm zb qz))) (wi (fun b hb=>decide_eq_true hb) x2 0 100 _ rfl) ?_
  simp only [jj,qb,j9,qd,B0,reduceIte,reduceEqDiff]
  obtain ⟨v26,hx27,hF28⟩:=qj hF7
  refine z7 12 (fun fr' h'=>Sep h' (geL h.length) ([])∧fr' 27 = .bool v26∧fr' 0=lst cI l_0∧fr' 5=lst cI l_0∧fr' 6 = .int .i64
    (List.length l_0:Int)∧fr' 7 = .int .i64 (i1:Int)) (fun Q23 hN24=>?_) ?_
  ·simp only [List.take_succ_cons,List.take_zero]
   simp only [qc (g:=15),B0,reduceIte,reduceEqDiff]
   refine qy (t:=(!(zt x2 0 100))) (fun hg25=>?_) (fun hg25=>?_)
   ·rw [iteT hg25] at hx27
    simp only [hg25,qc (g:=15),zq,qc (g:=18),ym,qs,qb,zj,qa,qn,B0,reduceIte,reduceEqDiff]
    have e29:=qk hx27
    exact hN24 _ _ ⟨hS17,by rw [←e29]; simp only [B0,reduceIte,reduceEqDiff],f18,f19,f22,f21⟩
   ·rw [iteF hg25] at hx27
    simp only [hg25,qc (g:=15),qp,qd,qx,qb,xb,B0,reduceIte,reduceEqDiff]
    obtain ⟨v33,hx34,hF35⟩:=qj hx27
    refine z7 8 (fun fr' h'=>Sep h' (geL h.length) ([])∧fr' 26 = .bool v33∧fr' 0=lst cI l_0∧fr' 5=lst cI l_0∧fr' 6 = .int .i64
      (List.length l_0:Int)∧fr' 7 = .int .i64 (i1:Int)∧fr' 15 = .bool (!(zt x2 0 100))) (fun Q30 hN31=>?_) ?_
    ·simp only [List.take_succ_cons,List.take_zero]
     simp only [qc (g:=18),B0,reduceIte,reduceEqDiff]
     refine qy (t:=(decide ((0:Int)<(i1:Int)))) (fun hg32=>?_) (fun hg32=>?_)
     ·rw [iteT hg32] at hx34
      obtain ⟨x36,hx37,hF38⟩:=qj hx34
      simp only [hg32,qc (g:=18),zg,f18,qd,qx,qb,qbd,jr,B0,reduceIte,reduceEqDiff]
      refine qh (v := .ref (cI x36) 0) (yl hx37 rfl) ?_
      simp only [hg32,qc (g:=18),zg,qo,B0,reduceIte,reduceEqDiff]
      refine qh (v := .int .i64 x36) rfl ?_
      simp only [hg32,qc (g:=18),zg,qd,qx,qb,xb,hg25,qc (g:=15),qp,qs,zj,qa,qn,
        B0,reduceIte,reduceEqDiff]
      have e39:=qk hF38
      exact hN31 _ _ ⟨hS17,by rw [←e39]; simp only [B0,reduceIte,reduceEqDiff],f18,f19,f22,f21,by simp only [hg25,B0,reduceIte,reduceEqDiff]⟩
     ·rw [iteF hg32] at hx34
      simp only [hg32,qc (g:=18),jl,hg25,qc (g:=15),qp,qs,qb,zk,qa,qn,B0,reduceIte,
        reduceEqDiff]
      have e40:=qk hx34
      exact hN31 _ _ ⟨hS17,by rw [←e40]; simp only [B0,reduceIte,reduceEqDiff],f18,f19,f22,f21,by simp only [hg25,B0,reduceIte,reduceEqDiff]⟩
    rintro fr41 h48 ⟨hS49,f42,f43,f44,f45,f46,f47⟩
    simp only [List.drop_succ_cons,List.drop_zero]
    simp only [f47,hg25,qs,qb,zk,f42,qa,qn,B0,reduceIte,reduceEqDiff]
    have e50:=qk hF35
    exact hN24 _ _ ⟨hS49,by rw [←e50]; simp only [B0,reduceIte,reduceEqDiff],f43,f44,f45,f46⟩
  rintro fr51 h57 ⟨hS58,f52,f53,f54,f55,f56⟩
  simp only [List.drop_succ_cons,List.drop_zero]
  simp only [qa,f52,ze,B0,reduceIte,reduceEqDiff]
  refine zf (t:=v26) (fun hc59=>?_) (fun hc59=>?_)
  ·rw [iteT hc59] at hF28
   simp only [qg,qf,qd,qa,za,B0,reduceIte,reduceEqDiff]
   have e60:=qk hF28
   subst e60
   have ho61:=hr8 _ rfl
   have hk62:=hk6
   rw [ho61] at hk62
   dsimp only [jnO] at hk62
   apply hR12
   have he:=qk hk62
   subst he
   simp only [zp,B0,reduceIte,reduceEqDiff]
   exact rfl
  rw [iteF hc59] at hF28
  simp only [zi,qn,B0,reduceIte,reduceEqDiff]
  have e63:=qk hF28
  exact hN10 _ _ _ e63.symm ⟨f53,f54,hS58⟩ (f56) (f55)
 rintro _ fr65 h66 rfl ⟨f68,f69,hS67⟩
 dsimp only [jnO] at hk6
 unfold qgi at hk6
 simp only [q6e,qg,qf,f68,qd,zr,qb,zx,qx,qju,qa,za,B0,reduceIte,reduceEqDiff]
 have he:=qk hk6
 subst he
 simp only [zp,B0,reduceIte,reduceEqDiff]
 exact rfl
theorem qka {W:Nat→Bool}{h:Heap} (hW:∀ b,
  (geL h.length) b→W b=true) (list_0:List Int) (many_1:Int) (r:Bool) (hF:qb9 list_0 many_1=some r) : Ret E W 99 [lst cI list_0,
  .int .i64 many_1] h (fun v h'=>cut h.length h' E.sz false 9 v=some (.bool r)):=by
 refine Ret.of (fn:=x99) rfl (Run.of ?_)
 unfold qb9 at hF
 have zf0:zh [lst cI list_0,.int .i64 many_1] 0=lst cI list_0:=rfl
 have zf1:zh [lst cI list_0,.int .i64 many_1] 1 = .int .i64 many_1:=rfl
 generalize zh [lst cI list_0,.int .i64 many_1]=fr0 at zf0 zf1 ⊢
 have hS:Sep h (geL h.length) []:=Sep.nil h
 simp only [x99,qg,qf,qd,qa,q60,zf0,zr,qb,zx,B0,reduceIte,reduceEqDiff]
 obtain ⟨oc3,hX5,hk6⟩:=kn hF
 simp only [q1q]
 refine wb (σ:=Unit) list_0 (fun i1 x2 _=>qbz list_0 many_1 i1 x2 )
   (fun s fr' h'=>fr' 0=lst cI list_0∧fr' 1 = .int .i64 many_1∧fr' 7=lst cI list_0∧Sep h' (geL h.length) ([])) hX5 ⟨zf0,zf1,rfl,hS⟩ (by simp only [B0,reduceIte,
   reduceEqDiff]) (by simp only [B0,reduceIte,reduceEqDiff]) (fun _ _ _ h=>h) rfl rfl (fun _ _ _ _ h=>h) (fun _ _ _ _ h=>h) (fun _ _ _ _ h=>h) (by decide) ?_ ?_
 ·rintro i1 x2 _ fr15 h16 hx21 ⟨f18,f19,f20,hS17⟩ f22 f23 oc4 hF7 hr8 Q9 hN10 hB14 hK11 hR12 hE13
  unfold qbz at hF7
  simp only [q1j,qg,qf,f22,qd,f20,jr,B0,reduceIte,reduceEqDiff]
  refine qh (v := .ref (cI x2) 0) (wc hx21 rfl) ?_
  simp only [qo,B0,reduceIte,reduceEqDiff]
  refine qh (v := .int .i64 x2) rfl ?_
  simp only [qd,qa,q0d,qg,qf,f19,qx,qb,qbd,qv,B0,reduceIte,reduceEqDiff]
  refine je rfl (qm zb (qm zb (qm zb qz))) (wi (fun b hb=>decide_eq_true hb) x2 0 (IntKind.wrap .i64 (many_1 - 1)) _ rfl) ?_
  simp only [jj,qb,j9,qd,B0,reduceIte,reduceEqDiff]
  obtain ⟨v27,hx28,hF29⟩:=qj hF7
  refine z7 12 (fun fr' h'=>Sep h' (geL h.length) ([])∧fr' 31 = .bool v27∧fr' 0=lst cI list_0∧fr' 1 = .int .i64 many_1∧fr' 7=lst cI list_0∧fr' 8 = .int .i64
    (List.length list_0:Int)∧fr' 9 = .int .i64 (i1:Int)) (fun Q24 hN25=>?_) ?_
  ·simp only [List.take_succ_cons,List.take_zero]
   simp only [qc (g:=19),B0,reduceIte,reduceEqDiff]
   refine qy (t:=(!(zt x2 0 (IntKind.wrap .i64 (many_1 - 1))))) (fun hg26=>?_) (fun hg26=>?_)
   ·rw [iteT hg26] at hx28
    simp only [hg26,qc (g:=19),zq,qc (g:=22),ym,qs,qb,zj,qa,qn,B0,reduceIte,reduceEqDiff]
    have e30:=qk hx28
    exact hN25 _ _ ⟨hS17,by rw [←e30]; simp only [B0,reduceIte,reduceEqDiff],f18,f19,f20,f23,f22⟩
   ·rw [iteF hg26] at hx28
    simp only [hg26,qc (g:=19),qp,qd,qx,qb,xb,B0,reduceIte,reduceEqDiff]
    obtain ⟨v34,hx35,hF36⟩:=qj hx28
    refine z7 8 (fun fr' h'=>Sep h' (geL h.length)
      ([])∧fr' 30 = .bool v34∧fr' 0=lst cI list_0∧fr' 1 = .int .i64 many_1∧fr' 7=lst cI list_0∧fr' 8 = .int .i64
      (List.length list_0:Int)∧fr' 9 = .int .i64 (i1:Int)∧fr' 19 = .bool (!(zt x2 0 (IntKind.wrap .i64 (many_1 - 1))))) (fun Q31 hN32=>?_) ?_
    ·simp only [List.take_succ_cons,List.take_zero]
     simp only [qc (g:=22),B0,reduceIte,reduceEqDiff]
     refine qy (t:=(decide ((0:Int)<(i1:Int)))) (fun hg33=>?_) (fun hg33=>?_)
     ·rw [iteT hg33] at hx35
      obtain ⟨x37,hx38,hF39⟩:=qj hx35
      simp only [hg33,qc (g:=22),zg,f18,qd,qx,qb,qbd,jr,B0,reduceIte,reduceEqDiff]
      refine qh (v := .ref (cI x37) 0) (yl hx38 rfl) ?_
      simp only [hg33,qc (g:=22),zg,qo,B0,reduceIte,reduceEqDiff]
      refine qh (v := .int .i64 x37) rfl ?_
      simp only [hg33,qc (g:=22),zg,qd,qx,qb,qh4,hg26,qc (g:=19),qp,qs,zj,qa,qn,
        B0,reduceIte,reduceEqDiff]
      have e40:=qk hF39
      exact hN32 _ _ ⟨hS17,by rw [←e40]; simp only [B0,reduceIte,reduceEqDiff],f18,f19,f20,f23,f22,by simp only [hg26,B0,reduceIte,reduceEqDiff]⟩
     ·rw [iteF hg33] at hx35
      simp only [hg33,qc (g:=22),jl,hg26,qc (g:=19),qp,qs,qb,zk,qa,qn,B0,reduceIte,
        reduceEqDiff]
      have e41:=qk hx35
      exact hN32 _ _ ⟨hS17,by rw [←e41]; simp only [B0,reduceIte,reduceEqDiff],f18,f19,f20,f23,f22,by simp only [hg26,B0,reduceIte,reduceEqDiff]⟩
    rintro fr42 h50 ⟨hS51,f43,f44,f45,f46,f47,f48,f49⟩
    simp only [List.drop_succ_cons,List.drop_zero]
    simp only [f49,hg26,qs,qb,zk,f43,qa,qn,B0,reduceIte,reduceEqDiff]
    have e52:=qk hF36
    exact hN25 _ _ ⟨hS51,by rw [←e52]; simp only [B0,reduceIte,reduceEqDiff],f44,f45,f46,f47,f48⟩
  rintro fr53 h60 ⟨hS61,f54,f55,f56,f57,f58,f59⟩
  simp only [List.drop_succ_cons,List.drop_zero]
  simp only [qa,f54,ze,B0,reduceIte,reduceEqDiff]
  refine zf (t:=v27) (fun hc62=>?_) (fun hc62=>?_)
  ·rw [iteT hc62] at hF29
   simp only [qg,qf,qd,qa,za,B0,reduceIte,reduceEqDiff]
   have e63:=qk hF29
   subst e63
   have ho64:=hr8 _ rfl
   have hk65:=hk6
   rw [ho64] at hk65
   dsimp only [jnO] at hk65
   apply hR12
   have he:=qk hk65
   subst he
   simp only [zp,B0,reduceIte,reduceEqDiff]
   exact rfl
  rw [iteF hc62] at hF29
  simp only [zi,qn,B0,reduceIte,reduceEqDiff]
  have e66:=qk hF29
  exact hN10 _ _ _ e66.symm ⟨f55,f56,f57,hS61⟩ (f59) (f58)
 rintro _ fr68 h69 rfl ⟨f71,f72,f73,hS70⟩
 dsimp only [jnO] at hk6
 unfold qgk at hk6
 simp only [qg,qf,qd,qa,za,B0,reduceIte,reduceEqDiff]
 have he:=qk hk6
 subst he
 simp only [zp,B0,reduceIte,reduceEqDiff]
 exact rfl
theorem qei {W:Nat→Bool}{h:Heap} (hW:∀ b,
  (geL h.length) b→W b=true) (s_0:List Vote) {g1:Nat} {caps1:List XV} (hm1:E.mode g1=1) (f_1:Vote→Option Bool) (hf1:∀ (W:Nat→Bool) (h:Heap),(∀ b,
  h.length≤b→W b=true)→∀ a0 r,f_1 a0=some r→Ret E W g1 ([.agg [.int .i64 a0.Term,
  .int .i64 a0.Leader]]++caps1) h (fun v h'=>cut h.length h' E.sz false 9 v=some (.bool r))) (r:Int)
  (hF:wm s_0 f_1=some r) : Ret E W 54 [lst ql s_0,.fn g1 caps1] h (fun v h'=>cut h.length h' E.sz false 9 v=some (.int .i64 r)):=by
 refine Ret.of (fn:=x54) rfl (Run.of ?_)
 unfold wm at hF
 have zf0:zh [lst ql s_0,.fn g1 caps1] 0=lst ql s_0:=rfl
 have zf1:zh [lst ql s_0,.fn g1 caps1] 1 = .fn g1 caps1:=rfl
 generalize zh [lst ql s_0,.fn g1 caps1]=fr0 at zf0 zf1 ⊢
 have hS:Sep h (geL h.length) []:=Sep.nil h
 simp only [x54,qg,qf,qd,qa,q59,zf0,zr,qb,zx,B0,reduceIte,reduceEqDiff]
 obtain ⟨oc3,hX5,hk6⟩:=kn hF
 simp only [q05]
 refine wb (σ:=Unit) s_0 (fun i1 x2 _=>ya f_1 i1 x2 ) (fun s fr' h'=>fr' 0=lst ql s_0∧fr' 1 = .fn g1 caps1∧Sep h' (geL h.length)
   ([])) hX5 ⟨zf0,zf1,hS⟩ (by simp only [B0,reduceIte,reduceEqDiff]) (by simp only [B0,reduceIte,
   reduceEqDiff]) (fun _ _ _ h=>h) rfl rfl (fun _ _ _ _ h=>h) (fun _ _ _ _ h=>h) (fun _ _ _ _ h=>h) (by decide) ?_ ?_
 ·rintro i1 x2 _ fr15 h16 hx20 ⟨f18,f19,hS17⟩ f21 f22 oc4 hF7 hr8 Q9 hN10 hB14 hK11 hR12 hE13
  unfold ya at hF7
  simp only [q1s,qg,qf,f21,qd,qa,q1t,f19,f18,jr,B0,reduceIte,reduceEqDiff]
  refine qh (v := .ref (ql x2) 0) (wc hx20 rfl) ?_
  simp only [qo,B0,reduceIte,reduceEqDiff]
  refine qh (v := .agg [.int .i64 x2.Term,.int .i64 x2.Leader]) rfl ?_
  obtain ⟨v23,hx24,hF25⟩:=qj hF7
  simp only [qv,B0,reduceIte,reduceEqDiff]
  refine je hm1 (qm (jm (qm zb (qm zb qz))) qz) (hf1 _ _ (fun b hb=>decide_eq_true hb) x2 v23 hx24) ?_
  simp only [qa,q0i,ze,B0,reduceIte,reduceEqDiff]
  refine zf (t:=v23) (fun hc26=>?_) (fun hc26=>?_)
  ·rw [iteT hc26] at hF25
   simp only [qg,qf,qd,qa,za,B0,reduceIte,reduceEqDiff]
   have e27:=qk hF25
   subst e27
   have ho28:=hr8 _ rfl
   have hk29:=hk6
   rw [ho28] at hk29
   dsimp only [jnO] at hk29
   apply hR12
   have he:=qk hk29
   subst he
   simp only [zp,B0,reduceIte,reduceEqDiff]
   exact rfl
  rw [iteF hc26] at hF25
  simp only [zi,qn,B0,reduceIte,reduceEqDiff]
  have e30:=qk hF25
  exact hN10 _ _ _ e30.symm ⟨f18,f19,hS17⟩ (f21) (f22)
 rintro _ fr32 h33 rfl ⟨f35,f36,hS34⟩
 dsimp only [jnO] at hk6
 unfold qd8 at hk6
 simp only [qg,qf,qd,qa,za,B0,reduceIte,reduceEqDiff]
 have he:=qk hk6
 subst he
 simp only [zp,B0,reduceIte,reduceEqDiff]
 exact rfl
theorem qgp {W:Nat→Bool}{h:Heap} (hW:∀ b,
  (geL h.length) b→W b=true) (s_0:List Vote) {g1:Nat} {caps1:List XV} (hm1:E.mode g1=1) (f_1:Vote→Option Bool) (hf1:∀ (W:Nat→Bool) (h:Heap),(∀ b,
  h.length≤b→W b=true)→∀ a0 r,f_1 a0=some r→Ret E W g1 ([.agg [.int .i64 a0.Term,
  .int .i64 a0.Leader]]++caps1) h (fun v h'=>cut h.length h' E.sz false 9 v=some (.bool r))) (r:Bool)
  (hF:ug s_0 f_1=some r) : Ret E W 100 [lst ql s_0,.fn g1 caps1] h (fun v h'=>cut h.length h' E.sz false 9 v=some (.bool r)):=by
 refine Ret.of (fn:=qqs) rfl (Run.of ?_)
 unfold ug at hF
 have zf0:zh [lst ql s_0,.fn g1 caps1] 0=lst ql s_0:=rfl
 have zf1:zh [lst ql s_0,.fn g1 caps1] 1 = .fn g1 caps1:=rfl
 generalize zh [lst ql s_0,.fn g1 caps1]=fr0 at zf0 zf1 ⊢
 have hS:Sep h (geL h.length) []:=Sep.nil h
 obtain ⟨v1,hx2,hF3⟩:=qj hF
 simp only [qqs,qg,qf,qd,qa,qug,zf0,zf1,qv,B0,reduceIte,reduceEqDiff]
 refine je rfl (qm zm (qm qme qz)) (qei (fun b hb=>decide_eq_true hb) s_0 (g1:=g1) (caps1:=caps1) hm1 f_1 hf1 v1 hx2) ?_
 simp only [qx,qb,qh4,qd,qa,za,B0,reduceIte,reduceEqDiff]
 have he:=qk hF3
 subst he
 simp only [zp,B0,reduceIte,reduceEqDiff]
 exact rfl
end Go.Proofs.Ytpddolihbnfahaa.X
namespace Go.Proofs.Ytpddolihbnfahaa.X
open Go
open Nat (reduceEqDiff)
theorem qjj {W:Nat→Bool}{h:Heap} (hW:∀ b,
  (geL h.length) b→W b=true) (v_0:Vote) (cap_0:Int) (r:Bool) (hF:some (ul v_0 cap_0)=some r) : Ret E W 101 [.agg [.int .i64 v_0.Term,
  .int .i64 v_0.Leader],.ref (cI cap_0) 0] h (fun v h'=>cut h.length h' E.sz false 9 v=some (.bool r)):=by
 refine Ret.of (fn:=qqc) rfl (Run.of ?_)
 unfold ul at hF
 have zf0:zh [.agg [.int .i64 v_0.Term,.int .i64 v_0.Leader],.ref (cI cap_0) 0] 0 = .agg [.int .i64 v_0.Term,.int .i64 v_0.Leader]:=rfl
 have zf1:zh [.agg [.int .i64 v_0.Term,.int .i64 v_0.Leader],.ref (cI cap_0) 0] 1 = .ref (cI cap_0) 0:=rfl
 generalize zh [.agg [.int .i64 v_0.Term,.int .i64 v_0.Leader],.ref (cI cap_0) 0]=fr0 at zf0 zf1 ⊢
 have hS:Sep h (geL h.length) []:=Sep.nil h
 simp only [qqc,qg,qf,kc,zf0,B0,reduceIte,reduceEqDiff]
 refine jo (cs:=[.int .i64 v_0.Term,.int .i64 v_0.Leader]) hS rfl rfl rfl (fun b1 h2 hS3=>?_)
 simp only [qd,qa,B0,reduceIte,reduceEqDiff]
 refine zy hS3 hW (by simp only [B0,reduceIte,reduceEqDiff]) (fun h5 hS6=>?_)
 simp only [zv,qvv,qg,qf,qt,qb,Nat.reduceAdd,Nat.zero_add,Nat.add_zero,qu,qo,B0,reduceIte,reduceEqDiff]
 refine qh (v := .int .i64 v_0.Term) rfl ?_
 simp only [qv,B0,reduceIte,reduceEqDiff]
 refine je rfl (qm zb (qm zb (qm zb qz))) (wi (fun b hb=>decide_eq_true hb) v_0.Term 0 100 _ rfl) ?_
 simp only [jj,qb,j9,qd,B0,reduceIte,reduceEqDiff]
 refine z7 7 (fun fr' h'=>Sep h' (geL h.length) ([])∧fr' 15 = .bool ((!(zt v_0.Term 0 100))||(!(zt v_0.Leader 0 (IntKind.wrap .i64 (cap_0 - 1))))))
   (fun Q7 hN8=>?_) ?_
 ·simp only [List.take_succ_cons,List.take_zero]
  simp only [qc (g:=8),B0,reduceIte,reduceEqDiff]
  refine qy (t:=(!(zt v_0.Term 0 100))) (fun hg9=>?_) (fun hg9=>?_)
  ·simp only [hg9,qc (g:=8),zq,qs,qb,zj,qa,qn,B0,reduceIte,reduceEqDiff]
   exact hN8 _ _ ⟨hS6,by rw [orT hg9]; simp only [B0,reduceIte,reduceEqDiff]⟩
  ·simp only [hg9,qc (g:=8),qp,qt,qb,Nat.reduceAdd,Nat.zero_add,Nat.add_zero,qu,qo,B0,reduceIte,reduceEqDiff]
   refine qh (v := .int .i64 v_0.Leader) rfl ?_
   simp only [hg9,qc (g:=8),qp,zf1,qo,B0,reduceIte,reduceEqDiff]
   refine qh (v := .int .i64 cap_0) rfl ?_
   simp only [hg9,qc (g:=8),qp,qx,qb,qbd,qv,B0,reduceIte,reduceEqDiff]
   refine je rfl (qm zb (qm zb (qm zb qz))) (wi (fun b hb=>decide_eq_true hb) v_0.Leader 0 (IntKind.wrap .i64 (cap_0 - 1)) _ rfl) ?_
   simp only [hg9,qc (g:=8),qp,jj,qb,j9,qs,zk,qa,qn,B0,reduceIte,reduceEqDiff]
   exact hN8 _ _ ⟨hS6,by rw [orF hg9]; simp only [B0,reduceIte,reduceEqDiff]⟩
 rintro fr10 h12 ⟨hS13,f11⟩
 simp only [List.drop_succ_cons,List.drop_zero]
 simp only [f11,qd,qa,za,B0,reduceIte,reduceEqDiff]
 have he:=qk hF
 subst he
 simp only [zp,B0,reduceIte,reduceEqDiff]
 exact rfl
theorem qa2 {W:Nat→Bool}{h:Heap} (hW:∀ b,
  (geL h.length) b→W b=true) (v_0:Election) (r:Bool) (hF:k9 v_0=some r) : Ret E W 53 [.agg [lst qi v_0.Servers,lst qe v_0.Post,
  lst ql v_0.Led]] h (fun v h'=>cut h.length h' E.sz false 9 v=some (.bool r)):=by
 refine Ret.of (fn:=x53) rfl (Run.of ?_)
 unfold k9 at hF
 have zf0:zh [.agg [lst qi v_0.Servers,lst qe v_0.Post,lst ql v_0.Led]] 0 = .agg [lst qi v_0.Servers,lst qe v_0.Post,
   lst ql v_0.Led]:=rfl
 generalize zh [.agg [lst qi v_0.Servers,lst qe v_0.Post,lst ql v_0.Led]]=fr0 at zf0 ⊢
 have hS:Sep h (geL h.length) []:=Sep.nil h
 simp only [x53,qg,qf,kc,zf0,B0,reduceIte,reduceEqDiff]
 refine jo (cs:=[lst qi v_0.Servers,lst qe v_0.Post,lst ql v_0.Led]) hS rfl rfl rfl (fun b1 h2 hS3=>?_)
 simp only [qd,qa,B0,reduceIte,reduceEqDiff]
 refine zy hS3 hW (by simp only [B0,reduceIte,reduceEqDiff]) (fun h5 hS6=>?_)
 simp only [zv,qs9,qg,qf,qt,qb,Nat.reduceAdd,Nat.zero_add,Nat.add_zero,qu,qo,B0,reduceIte,reduceEqDiff]
 refine qh (v:=lst qi v_0.Servers) rfl ?_
 simp only [zr,qb,zx,jg,B0,reduceIte,reduceEqDiff]
 refine zw hS6 (fun b7 h8 hS9=>?_)
 simp only [zl,B0,reduceIte,reduceEqDiff]
 refine q9 (us:=[.int .i64 (List.length v_0.Servers:Int)]) rfl (cs':=[.int .i64 (List.length v_0.Servers:Int)]) hS9 hW rfl rfl (nle rfl) rfl (fun h11 hS12=>?_)
 simp only [qa,B0,reduceIte,reduceEqDiff]
 refine zy hS12 hW (by simp only [B0,reduceIte,reduceEqDiff]) (fun h13 hS14=>?_)
 simp only [zv,qsl,qg,qf,qo,B0,reduceIte,reduceEqDiff]
 refine qh (v := .int .i64 (List.length v_0.Servers:Int)) rfl ?_
 simp only [qv,B0,reduceIte,reduceEqDiff]
 refine je rfl (qm zb (qm zb (qm zb qz))) (wi (fun b hb=>decide_eq_true hb) (List.length v_0.Servers:Int) 1 5 _ rfl) ?_
 simp only [jj,qb,j9,qd,B0,reduceIte,reduceEqDiff]
 refine z7 5 (fun fr' h'=>Sep h' (geL h.length) ([])∧fr' 19 = .bool ((!(zt (List.length v_0.Servers:Int) 1 5))||(decide ((20:Int) <
   (List.length v_0.Post:Int))))∧fr' 1 = .ref [lst qi v_0.Servers,lst qe v_0.Post,
   lst ql v_0.Led] 0∧fr' 3 = .ref [.int .i64 (List.length v_0.Servers:Int)] 0) (fun Q15 hN16=>?_) ?_
 ·simp only [List.take_succ_cons,List.take_zero]
  simp only [qc (g:=14),B0,reduceIte,reduceEqDiff]
  refine qy (t:=(!(zt (List.length v_0.Servers:Int) 1 5))) (fun hg17=>?_) (fun hg17=>?_)
  ·simp only [hg17,qc (g:=14),zq,qs,qb,zj,qa,qn,B0,reduceIte,reduceEqDiff]
   exact hN16 _ _ ⟨hS14,by rw [orT hg17]; simp only [B0,reduceIte,reduceEqDiff],rfl,rfl⟩
  ·simp only [hg17,qc (g:=14),qp,qt,qb,Nat.reduceAdd,Nat.zero_add,Nat.add_zero,qu,qo,B0,reduceIte,reduceEqDiff]
   refine qh (v:=lst qe v_0.Post) rfl ?_
   simp only [hg17,qc (g:=14),qp,zr,qb,zx,qx,xb,qs,zk,qa,qn,B0,reduceIte,reduceEqDiff]
   exact hN16 _ _ ⟨hS14,by rw [orF hg17]; simp only [B0,reduceIte,reduceEqDiff],rfl,rfl⟩
 rintro fr18 h22 ⟨hS23,f19,f20,f21⟩
 simp only [List.drop_succ_cons,List.drop_zero]
 simp only [f19,qd,B0,reduceIte,reduceEqDiff]
 refine z7 5 (fun fr' h'=>Sep h' (geL h.length) ([])∧fr' 25 = .bool (((!(zt (List.length v_0.Servers:Int) 1 5))||(decide ((20:Int) <
   (List.length v_0.Post:Int))))||(decide ((80:Int)<(List.length v_0.Led:Int))))∧fr' 1 = .ref [lst qi v_0.Servers,lst qe v_0.Post,
   lst ql v_0.Led] 0∧fr' 3 = .ref [.int .i64 (List.length v_0.Servers:Int)] 0) (fun Q24 hN25=>?_) ?_
 ·simp only [List.take_succ_cons,List.take_zero]
  simp only [qc (g:=20),B0,reduceIte,reduceEqDiff]
  refine qy (t:=((!(zt (List.length v_0.Servers:Int) 1 5))||(decide ((20:Int)<(List.length v_0.Post:Int))))) (fun hg26=>?_) (fun hg26=>?_)
  ·simp only [hg26,qc (g:=20),zq,qs,qb,zj,qa,qn,B0,reduceIte,reduceEqDiff]
   exact hN25 _ _ ⟨hS23,by rw [orT hg26]; simp only [B0,reduceIte,reduceEqDiff],f20,f21⟩
  ·simp only [hg26,qc (g:=20),qp,f20,qt,qb,Nat.reduceAdd,Nat.zero_add,Nat.add_zero,qu,qo,B0,reduceIte,reduceEqDiff]
   refine qh (v:=lst ql v_0.Led) rfl ?_
   simp only [hg26,qc (g:=20),qp,zr,qb,zx,qx,xb,qs,zk,qa,qn,B0,reduceIte,reduceEqDiff]
   exact hN25 _ _ ⟨hS23,by rw [orF hg26]; simp only [B0,reduceIte,reduceEqDiff],f20,f21⟩
 rintro fr27 h31 ⟨hS32,f28,f29,f30⟩
 simp only [List.drop_succ_cons,List.drop_zero]
 simp only [qa,f28,ze,B0,reduceIte,reduceEqDiff]
 refine zf (t:=(((!(zt (List.length v_0.Servers:Int) 1 5))||(decide ((20:Int)<(List.length v_0.Post:Int))))||(decide ((80:Int) <
   (List.length v_0.Led:Int))))) (fun hc33=>?_) (fun hc33=>?_)
 ·rw [iteT hc33] at hF
  simp only [qg,qf,qd,qa,za,B0,reduceIte,reduceEqDiff]
  have he:=qk hF
  subst he
  simp only [zp,B0,reduceIte,reduceEqDiff]
  exact rfl
 rw [iteF hc33] at hF
 simp only [zi,qst,qg,qf,f29,qt,qb,Nat.reduceAdd,Nat.zero_add,Nat.add_zero,qu,qo,B0,reduceIte,reduceEqDiff]
 refine qh (v:=lst qi v_0.Servers) rfl ?_
 simp only [zr,qb,zx,qd,qa,B0,reduceIte,reduceEqDiff]
 obtain ⟨oc36,hX38,hk39⟩:=kn hF
 simp only [q11]
 refine wb (σ:=Unit) v_0.Servers (fun i34 x35 _=>qcb v_0 i34 x35 ) (fun s fr' h'=>fr' 1 = .ref [lst qi v_0.Servers,
   lst qe v_0.Post,lst ql v_0.Led] 0∧fr' 3 = .ref [.int .i64 (List.length v_0.Servers:Int)] 0∧fr' 27=lst qi v_0.Servers∧Sep h'
   (geL h.length) ([])) hX38 ⟨f29,f30,rfl,hS32⟩ (by simp only [B0,reduceIte,reduceEqDiff]) (by simp only [B0,reduceIte,
   reduceEqDiff]) (fun _ _ _ h=>h) rfl rfl (fun _ _ _ _ h=>h) (fun _ _ _ _ h=>h) (fun _ _ _ _ h=>h) (by decide) ?_ ?_
 ·rintro i34 x35 _ fr48 h49 hx54 ⟨f51,f52,f53,hS50⟩ f55 f56 oc37 hF40 hr41 Q42 hN43 hB47 hK44 hR45 hE46
  unfold qcb at hF40
  simp only [qzv,qg,qf,f53,f55,jr,B0,reduceIte,reduceEqDiff]
  refine qh (v := .ref (qi x35) 0) (wc hx54 rfl) ?_
  simp only [qo,B0,reduceIte,reduceEqDiff]
  refine qh (v := .agg [.int .i64 x35.Term,.int .i64 x35.Voted,.bool x35.Stands,.bool x35.Leads,lst cI x35.Got,lst cI x35.Log]) rfl ?_
  simp only [jg,B0,reduceIte,reduceEqDiff]
  refine zw hS50 (fun b57 h58 hS59=>?_)
  simp only [zl,B0,reduceIte,reduceEqDiff]
  refine q9 (us:=[.int .i64 x35.Term,.int .i64 x35.Voted,.bool x35.Stands,.bool x35.Leads,lst cI x35.Got,lst cI x35.Log]) rfl (cs':=[.int .i64 x35.Term,
    .int .i64 x35.Voted,.bool x35.Stands,.bool x35.Leads,lst cI x35.Got,lst cI x35.Log]) hS59 hW rfl rfl (nle rfl) rfl (fun h61 hS62=>?_)
  simp only [qa,B0,reduceIte,reduceEqDiff]
  refine zy hS62 hW (by simp only [B0,reduceIte,reduceEqDiff]) (fun h63 hS64=>?_)
  simp only [zv,qz8,qg,qf,qt,qb,Nat.reduceAdd,Nat.zero_add,Nat.add_zero,qu,qo,B0,reduceIte,reduceEqDiff]
  refine qh (v := .int .i64 x35.Term) rfl ?_
  simp only [qv,B0,reduceIte,reduceEqDiff]
  refine je rfl (qm zb (qm zb (qm zb qz))) (wi (fun b hb=>decide_eq_true hb) x35.Term 0 100 _ rfl) ?_
  simp only [jj,qb,j9,qd,B0,reduceIte,reduceEqDiff]
  refine z7 7 (fun fr' h'=>Sep h' (geL h.length) ([])∧fr' 44 = .bool ((!(zt x35.Term 0 100))||(!(zt x35.Voted (-1) (IntKind.wrap .i64
    ((List.length v_0.Servers:Int) - 1)))))∧fr' 1 = .ref [lst qi v_0.Servers,lst qe v_0.Post,
    lst ql v_0.Led] 0∧fr' 3 = .ref [.int .i64 (List.length v_0.Servers:Int)] 0∧fr' 5 = .ref [.int .i64 x35.Term,.int .i64 x35.Voted,.bool x35.Stands,
    .bool x35.Leads,lst cI x35.Got,lst cI x35.Log] 0∧fr' 27=lst qi v_0.Servers∧fr' 28 = .int .i64 (List.length v_0.Servers:Int)∧fr' 29 = .int .i64
    (i34:Int)) (fun Q65 hN66=>?_) ?_
  ·simp only [List.take_succ_cons,List.take_zero]
   simp only [qc (g:=37),B0,reduceIte,reduceEqDiff]
   refine qy (t:=(!(zt x35.Term 0 100))) (fun hg67=>?_) (fun hg67=>?_)
   ·simp only [hg67,qc (g:=37),zq,qs,qb,zj,qa,qn,B0,reduceIte,reduceEqDiff]
    exact hN66 _ _ ⟨hS64,by rw [orT hg67]; simp only [B0,reduceIte,reduceEqDiff],f51,f52,rfl,f53,f56,f55⟩
   ·simp only [hg67,qc (g:=37),qp,qt,qb,Nat.reduceAdd,Nat.zero_add,Nat.add_zero,qu,qo,B0,reduceIte,reduceEqDiff]
    refine qh (v := .int .i64 x35.Voted) rfl ?_
    simp only [hg67,qc (g:=37),qp,f52,qo,B0,reduceIte,reduceEqDiff]
    refine qh (v := .int .i64 (List.length v_0.Servers:Int)) rfl ?_
    simp only [hg67,qc (g:=37),qp,qx,qb,qbd,qv,B0,reduceIte,reduceEqDiff]
    refine je rfl (qm zb (qm zb (qm zb qz))) (wi (fun b hb=>decide_eq_true hb) x35.Voted (-1) (IntKind.wrap .i64
      ((List.length v_0.Servers:Int) - 1)) _ rfl) ?_
    simp only [hg67,qc (g:=37),qp,jj,qb,j9,qs,zk,qa,qn,B0,reduceIte,reduceEqDiff]
    exact hN66 _ _ ⟨hS64,by rw [orF hg67]; simp only [B0,reduceIte,reduceEqDiff],f51,f52,rfl,f53,f56,f55⟩
  rintro fr68 h76 ⟨hS77,f69,f70,f71,f72,f73,f74,f75⟩
  simp only [List.drop_succ_cons,List.drop_zero]
  simp only [f69,qd,B0,reduceIte,reduceEqDiff]
  refine z7 7 (fun fr' h'=>Sep h' (geL h.length) ([])∧fr' 52 = .bool (((!(zt x35.Term 0 100))||(!(zt x35.Voted (-1) (IntKind.wrap .i64
    ((List.length v_0.Servers:Int) - 1)))))||(x35.Stands&&x35.Leads))∧fr' 1 = .ref [lst qi v_0.Servers,lst qe v_0.Post,
    lst ql v_0.Led] 0∧fr' 3 = .ref [.int .i64 (List.length v_0.Servers:Int)] 0∧fr' 5 = .ref [.int .i64 x35.Term,.int .i64 x35.Voted,.bool x35.Stands,
    .bool x35.Leads,lst cI x35.Got,lst cI x35.Log] 0∧fr' 27=lst qi v_0.Servers∧fr' 28 = .int .i64 (List.length v_0.Servers:Int)∧fr' 29 = .int .i64
    (i34:Int)) (fun Q78 hN79=>?_) ?_
  ·simp only [List.take_succ_cons,List.take_zero]
   simp only [qc (g:=45),B0,reduceIte,reduceEqDiff]
   refine qy (t:=((!(zt x35.Term 0 100))||(!(zt x35.Voted (-1) (IntKind.wrap .i64 ((List.length v_0.Servers:Int) - 1)))))) (fun hg80=>?_)
     (fun hg80=>?_)
   ·simp only [hg80,qc (g:=45),zq,qc (g:=48),ym,qs,qb,zj,qa,qn,B0,reduceIte,reduceEqDiff]
    exact hN79 _ _ ⟨hS77,by rw [orT hg80]; simp only [B0,reduceIte,reduceEqDiff],f70,f71,f72,f73,f74,f75⟩
   ·simp only [hg80,qc (g:=45),qp,f72,qt,qb,Nat.reduceAdd,Nat.zero_add,Nat.add_zero,qu,qo,B0,reduceIte,reduceEqDiff]
    refine qh (v := .bool x35.Stands) rfl ?_
    simp only [hg80,qc (g:=45),qp,qd,B0,reduceIte,reduceEqDiff]
    refine z7 3 (fun fr' h'=>Sep h' (geL h.length) ([])∧fr' 51 = .bool (x35.Stands&&x35.Leads)∧fr' 1 = .ref [lst qi v_0.Servers,
      lst qe v_0.Post,lst ql v_0.Led] 0∧fr' 3 = .ref [.int .i64 (List.length v_0.Servers:Int)] 0∧fr' 5 = .ref [.int .i64 x35.Term,
      .int .i64 x35.Voted,.bool x35.Stands,.bool x35.Leads,lst cI x35.Got,
      lst cI x35.Log] 0∧fr' 27=lst qi v_0.Servers∧fr' 28 = .int .i64 (List.length v_0.Servers:Int)∧fr' 29 = .int .i64 (i34:Int)∧fr' 45 = .bool
      ((!(zt x35.Term 0 100))||(!(zt x35.Voted (-1) (IntKind.wrap .i64 ((List.length v_0.Servers:Int) - 1)))))) (fun Q81 hN82=>?_) ?_
    ·simp only [List.take_succ_cons,List.take_zero]
     simp only [qc (g:=48),B0,reduceIte,reduceEqDiff]
     refine qy (t:=x35.Stands) (fun hg83=>?_) (fun hg83=>?_)
     ·simp only [hg83,qc (g:=48),zg,f72,qt,qb,Nat.reduceAdd,Nat.zero_add,Nat.add_zero,qu,qo,B0,reduceIte,reduceEqDiff]
      refine qh (v := .bool x35.Leads) rfl ?_
      simp only [hg80,qc (g:=45),qp,hg83,qs,qb,zj,qa,qn,B0,reduceIte,reduceEqDiff]
      exact hN82 _ _ ⟨hS77,by rw [xl hg83]; simp only [B0,reduceIte,reduceEqDiff],f70,f71,by simp only [f72,B0,reduceIte,reduceEqDiff,hg83],f73,f74,f75,
        by simp only [hg80,B0,reduceIte,reduceEqDiff]⟩
     ·simp only [hg83,qc (g:=48),jl,hg80,qc (g:=45),qp,qs,qb,zk,qa,qn,B0,reduceIte,
       reduceEqDiff]
      exact hN82 _ _ ⟨hS77,by rw [xm hg83]; simp only [B0,reduceIte,reduceEqDiff],f70,f71,by simp only [f72,B0,reduceIte,reduceEqDiff,hg83],f73,f74,f75,
        by simp only [hg80,B0,reduceIte,reduceEqDiff]⟩
    rintro fr84 h93 ⟨hS94,f85,f86,f87,f88,f89,f90,f91,f92⟩
    simp only [List.drop_succ_cons,List.drop_zero]
    simp only [f92,hg80,qs,qb,zk,f85,qa,qn,B0,reduceIte,reduceEqDiff]
    exact hN79 _ _ ⟨hS94,by rw [orF hg80]; simp only [B0,reduceIte,reduceEqDiff],f86,f87,f88,f89,f90,f91⟩
  rintro fr95 h103 ⟨hS104,f96,f97,f98,f99,f100,f101,f102⟩
  simp only [List.drop_succ_cons,List.drop_zero]
  simp only [f96,qd,B0,reduceIte,reduceEqDiff]
  obtain ⟨v108,hx109,hF110⟩:=qj hF40
  refine z7 6 (fun fr' h'=>Sep h' (geL h.length) ([])∧fr' 59 = .bool v108∧fr' 1 = .ref [lst qi v_0.Servers,lst qe v_0.Post,
    lst ql v_0.Led] 0∧fr' 3 = .ref [.int .i64 (List.length v_0.Servers:Int)] 0∧fr' 5 = .ref [.int .i64 x35.Term,.int .i64 x35.Voted,.bool x35.Stands,
    .bool x35.Leads,lst cI x35.Got,lst cI x35.Log] 0∧fr' 27=lst qi v_0.Servers∧fr' 28 = .int .i64 (List.length v_0.Servers:Int)∧fr' 29 = .int .i64
    (i34:Int)) (fun Q105 hN106=>?_) ?_
  ·simp only [List.take_succ_cons,List.take_zero]
   simp only [qc (g:=53),B0,reduceIte,reduceEqDiff]
   refine qy (t:=(((!(zt x35.Term 0 100))||(!(zt x35.Voted (-1) (IntKind.wrap .i64 ((List.length v_0.Servers:Int) - 1))))) ||
     (x35.Stands&&x35.Leads))) (fun hg107=>?_) (fun hg107=>?_)
   ·rw [iteT hg107] at hx109
    simp only [hg107,qc (g:=53),zq,qs,qb,zj,qa,qn,B0,reduceIte,reduceEqDiff]
    have e111:=qk hx109
    exact hN106 _ _ ⟨hS104,by rw [←e111]; simp only [B0,reduceIte,reduceEqDiff],f97,f98,f99,f100,f101,f102⟩
   ·rw [iteF hg107] at hx109
    simp only [hg107,qc (g:=53),qp,f99,qt,qb,Nat.reduceAdd,Nat.zero_add,Nat.add_zero,qu,qo,B0,reduceIte,reduceEqDiff]
    refine qh (v:=lst cI x35.Got) rfl ?_
    simp only [hg107,qc (g:=53),qp,f98,qo,B0,reduceIte,reduceEqDiff]
    refine qh (v := .int .i64 (List.length v_0.Servers:Int)) rfl ?_
    obtain ⟨v112,hx113,hF114⟩:=qj hx109
    simp only [hg107,qc (g:=53),qp,qv,B0,reduceIte,reduceEqDiff]
    refine je rfl (qm zm (qm zb qz)) (qka (fun b hb=>decide_eq_true hb) x35.Got (List.length v_0.Servers:Int) v112 hx113) ?_
    simp only [hg107,qc (g:=53),qp,jj,qb,j9,qs,zk,qa,qn,B0,reduceIte,reduceEqDiff]
    have e115:=qk hF114
    exact hN106 _ _ ⟨hS104,by rw [←e115]; simp only [B0,reduceIte,reduceEqDiff],f97,f98,f99,f100,f101,f102⟩
  rintro fr116 h124 ⟨hS125,f117,f118,f119,f120,f121,f122,f123⟩
  simp only [List.drop_succ_cons,List.drop_zero]
  simp only [f117,qd,B0,reduceIte,reduceEqDiff]
  refine z7 15 (fun fr' h'=>Sep h' (geL h.length) ([])∧fr' 75 = .bool (v108||(((!x35.Stands)&&(!x35.Leads))&&(decide ((0:Int) <
    (List.length x35.Got:Int)))))∧fr' 1 = .ref [lst qi v_0.Servers,lst qe v_0.Post,
    lst ql v_0.Led] 0∧fr' 3 = .ref [.int .i64 (List.length v_0.Servers:Int)] 0∧fr' 5 = .ref [.int .i64 x35.Term,.int .i64 x35.Voted,.bool x35.Stands,
    .bool x35.Leads,lst cI x35.Got,lst cI x35.Log] 0∧fr' 27=lst qi v_0.Servers∧fr' 28 = .int .i64 (List.length v_0.Servers:Int)∧fr' 29 = .int .i64
    (i34:Int)) (fun Q126 hN127=>?_) ?_
  ·simp only [List.take_succ_cons,List.take_zero]
   simp only [qc (g:=60),B0,reduceIte,reduceEqDiff]
   refine qy (t:=v108) (fun hg128=>?_) (fun hg128=>?_)
   ·simp only [hg128,qc (g:=60),zq,qc (g:=64),ym,qc (g:=69),qs,qb,zj,qa,qn,B0,reduceIte,
     reduceEqDiff]
    exact hN127 _ _ ⟨hS125,by rw [orT hg128]; simp only [B0,reduceIte,reduceEqDiff],f118,f119,f120,f121,f122,f123⟩
   ·simp only [hg128,qc (g:=60),qp,f120,qt,qb,Nat.reduceAdd,Nat.zero_add,Nat.add_zero,qu,qo,B0,reduceIte,reduceEqDiff]
    refine qh (v := .bool x35.Stands) rfl ?_
    simp only [hg128,qc (g:=60),qp,jj,qb,j9,qd,B0,reduceIte,reduceEqDiff]
    refine z7 4 (fun fr' h'=>Sep h' (geL h.length) ([])∧fr' 68 = .bool ((!x35.Stands)&&(!x35.Leads))∧fr' 1 = .ref [lst qi v_0.Servers,
      lst qe v_0.Post,lst ql v_0.Led] 0∧fr' 3 = .ref [.int .i64 (List.length v_0.Servers:Int)] 0∧fr' 5 = .ref [.int .i64 x35.Term,
      .int .i64 x35.Voted,.bool x35.Stands,.bool x35.Leads,lst cI x35.Got,
      lst cI x35.Log] 0∧fr' 27=lst qi v_0.Servers∧fr' 28 = .int .i64 (List.length v_0.Servers:Int)∧fr' 29 = .int .i64 (i34:Int)∧fr' 60 = .bool v108)
      (fun Q129 hN130=>?_) ?_
    ·simp only [List.take_succ_cons,List.take_zero]
     simp only [qc (g:=64),B0,reduceIte,reduceEqDiff]
     refine qy (t:=(!x35.Stands)) (fun hg131=>?_) (fun hg131=>?_)
     ·simp only [hg131,qc (g:=64),zg,f120,qt,qb,Nat.reduceAdd,Nat.zero_add,Nat.add_zero,qu,qo,B0,reduceIte,reduceEqDiff]
      refine qh (v := .bool x35.Leads) rfl ?_
      simp only [hg131,qc (g:=64),zg,jj,qb,j9,hg128,qc (g:=60),qp,qs,zj,qa,qn,B0,
        reduceIte,reduceEqDiff]
      exact hN130 _ _ ⟨hS125,by rw [xl hg131]; simp only [B0,reduceIte,reduceEqDiff],f118,f119,f120,f121,f122,f123,by simp only [hg128,B0,reduceIte,
        reduceEqDiff]⟩
     ·simp only [hg131,qc (g:=64),jl,hg128,qc (g:=60),qp,qs,qb,zk,qa,qn,B0,reduceIte,
       reduceEqDiff]
      exact hN130 _ _ ⟨hS125,by rw [xm hg131]; simp only [B0,reduceIte,reduceEqDiff],f118,f119,f120,f121,f122,f123,by simp only [hg128,B0,reduceIte,
        reduceEqDiff]⟩
    rintro fr132 h141 ⟨hS142,f133,f134,f135,f136,f137,f138,f139,f140⟩
    simp only [List.drop_succ_cons,List.drop_zero]
    simp only [f140,hg128,qc (g:=60),qp,f133,qd,B0,reduceIte,reduceEqDiff]
    refine z7 5 (fun fr' h'=>Sep h' (geL h.length) ([])∧fr' 74 = .bool (((!x35.Stands)&&(!x35.Leads))&&(decide ((0:Int) <
      (List.length x35.Got:Int))))∧fr' 1 = .ref [lst qi v_0.Servers,lst qe v_0.Post,
      lst ql v_0.Led] 0∧fr' 3 = .ref [.int .i64 (List.length v_0.Servers:Int)] 0∧fr' 5 = .ref [.int .i64 x35.Term,.int .i64 x35.Voted,.bool x35.Stands,
      .bool x35.Leads,lst cI x35.Got,lst cI x35.Log] 0∧fr' 27=lst qi v_0.Servers∧fr' 28 = .int .i64 (List.length v_0.Servers:Int)∧fr' 29 = .int .i64
      (i34:Int)∧fr' 60 = .bool v108) (fun Q143 hN144=>?_) ?_
    ·simp only [List.take_succ_cons,List.take_zero]
     simp only [qc (g:=69),B0,reduceIte,reduceEqDiff]
     refine qy (t:=((!x35.Stands)&&(!x35.Leads))) (fun hg145=>?_) (fun hg145=>?_)
     ·simp only [hg145,qc (g:=69),zg,f136,qt,qb,Nat.reduceAdd,Nat.zero_add,Nat.add_zero,qu,qo,B0,reduceIte,reduceEqDiff]
      refine qh (v:=lst cI x35.Got) rfl ?_
      simp only [hg145,qc (g:=69),zg,zr,qb,zx,qx,xb,f140,hg128,qc (g:=60),qp,qs,zj,
        qa,qn,B0,reduceIte,reduceEqDiff]
      exact hN144 _ _ ⟨hS142,by rw [xl hg145]; simp only [B0,reduceIte,reduceEqDiff],f134,f135,f136,f137,f138,f139,by simp only [f140,hg128,B0,reduceIte,
        reduceEqDiff]⟩
     ·simp only [hg145,qc (g:=69),jl,f140,hg128,qc (g:=60),qp,qs,qb,zk,qa,qn,B0,reduceIte,
       reduceEqDiff]
      exact hN144 _ _ ⟨hS142,by rw [xm hg145]; simp only [B0,reduceIte,reduceEqDiff],f134,f135,f136,f137,f138,f139,by simp only [f140,hg128,B0,reduceIte,
        reduceEqDiff]⟩
    rintro fr146 h155 ⟨hS156,f147,f148,f149,f150,f151,f152,f153,f154⟩
    simp only [List.drop_succ_cons,List.drop_zero]
    simp only [f154,hg128,qs,qb,zk,f147,qa,qn,B0,reduceIte,reduceEqDiff]
    exact hN127 _ _ ⟨hS156,by rw [orF hg128]; simp only [B0,reduceIte,reduceEqDiff],f148,f149,f150,f151,f152,f153⟩
  rintro fr157 h165 ⟨hS166,f158,f159,f160,f161,f162,f163,f164⟩
  simp only [List.drop_succ_cons,List.drop_zero]
  simp only [f158,qd,B0,reduceIte,reduceEqDiff]
  obtain ⟨v170,hx171,hF172⟩:=qj hF110
  refine z7 5 (fun fr' h'=>Sep h' (geL h.length) ([])∧fr' 81 = .bool v170∧fr' 1 = .ref [lst qi v_0.Servers,lst qe v_0.Post,
    lst ql v_0.Led] 0∧fr' 3 = .ref [.int .i64 (List.length v_0.Servers:Int)] 0∧fr' 27=lst qi v_0.Servers∧fr' 28 = .int .i64
    (List.length v_0.Servers:Int)∧fr' 29 = .int .i64 (i34:Int)) (fun Q167 hN168=>?_) ?_
  ·simp only [List.take_succ_cons,List.take_zero]
   simp only [qc (g:=76),B0,reduceIte,reduceEqDiff]
   refine qy (t:=(v108||(((!x35.Stands)&&(!x35.Leads))&&(decide ((0:Int)<(List.length x35.Got:Int)))))) (fun hg169=>?_) (fun hg169=>?_)
   ·rw [iteT hg169] at hx171
    simp only [hg169,qc (g:=76),zq,qs,qb,zj,qa,qn,B0,reduceIte,reduceEqDiff]
    have e173:=qk hx171
    exact hN168 _ _ ⟨hS166,by rw [←e173]; simp only [B0,reduceIte,reduceEqDiff],f159,f160,f162,f163,f164⟩
   ·rw [iteF hg169] at hx171
    simp only [hg169,qc (g:=76),qp,f161,qt,qb,Nat.reduceAdd,Nat.zero_add,Nat.add_zero,qu,qo,B0,reduceIte,reduceEqDiff]
    refine qh (v:=lst cI x35.Log) rfl ?_
    obtain ⟨v174,hx175,hF176⟩:=qj hx171
    simp only [hg169,qc (g:=76),qp,qv,B0,reduceIte,reduceEqDiff]
    refine je rfl (qm zm qz) (qcn (fun b hb=>decide_eq_true hb) x35.Log v174 hx175) ?_
    simp only [hg169,qc (g:=76),qp,jj,qb,j9,qs,zk,qa,qn,B0,reduceIte,reduceEqDiff]
    have e177:=qk hF176
    exact hN168 _ _ ⟨hS166,by rw [←e177]; simp only [B0,reduceIte,reduceEqDiff],f159,f160,f162,f163,f164⟩
  rintro fr178 h185 ⟨hS186,f179,f180,f181,f182,f183,f184⟩
  simp only [List.drop_succ_cons,List.drop_zero]
  simp only [qa,f179,ze,B0,reduceIte,reduceEqDiff]
  refine zf (t:=v170) (fun hc187=>?_) (fun hc187=>?_)
  ·rw [iteT hc187] at hF172
   simp only [qg,qf,qd,qa,za,B0,reduceIte,reduceEqDiff]
   have e188:=qk hF172
   subst e188
   have ho189:=hr41 _ rfl
   have hk190:=hk39
   rw [ho189] at hk190
   dsimp only [jnO] at hk190
   apply hR45
   have he:=qk hk190
   subst he
   simp only [zp,B0,reduceIte,reduceEqDiff]
   exact rfl
  rw [iteF hc187] at hF172
  simp only [zi,qn,B0,reduceIte,reduceEqDiff]
  have e191:=qk hF172
  exact hN43 _ _ _ e191.symm ⟨f180,f181,f182,hS186⟩ (f184) (f183)
 rintro _ fr193 h194 rfl ⟨f196,f197,f198,hS195⟩
 dsimp only [jnO] at hk39
 unfold qdt at hk39
 simp only [qyc,qg,qf,f196,qt,qb,Nat.reduceAdd,Nat.zero_add,Nat.add_zero,qu,qo,B0,reduceIte,reduceEqDiff]
 refine qh (v:=lst qe v_0.Post) rfl ?_
 simp only [zr,qb,zx,qd,qa,B0,reduceIte,reduceEqDiff]
 obtain ⟨oc201,hX203,hk204⟩:=kn hk39
 simp only [q3r]
 refine wb (σ:=Unit) v_0.Post (fun i199 x200 _=>qb1 v_0 i199 x200 ) (fun s fr' h'=>fr' 1 = .ref [lst qi v_0.Servers,
   lst qe v_0.Post,lst ql v_0.Led] 0∧fr' 3 = .ref [.int .i64 (List.length v_0.Servers:Int)] 0∧fr' 84=lst qe v_0.Post∧Sep h'
   (geL h.length) ([])) hX203 ⟨f196,f197,rfl,hS195⟩ (by simp only [B0,reduceIte,reduceEqDiff]) (by simp only [B0,reduceIte,
   reduceEqDiff]) (fun _ _ _ h=>h) rfl rfl (fun _ _ _ _ h=>h) (fun _ _ _ _ h=>h) (fun _ _ _ _ h=>h) (by decide) ?_ ?_
 ·rintro i199 x200 _ fr213 h214 hx219 ⟨f216,f217,f218,hS215⟩ f220 f221 oc202 hF205 hr206 Q207 hN208 hB212 hK209 hR210 hE211
  unfold qb1 at hF205
  simp only [q7b,qg,qf,f218,f220,jr,B0,reduceIte,reduceEqDiff]
  refine qh (v := .ref (qe x200) 0) (wc hx219 rfl) ?_
  simp only [qo,B0,reduceIte,reduceEqDiff]
  refine qh (v := .agg [.int .i64 x200.To,.int .i64 x200.From,.int .i64 x200.Term,.bool x200.Asks,.int .i64 x200.Last,.int .i64 x200.Long,.bool x200.Grant]) rfl ?_
  simp only [jg,B0,reduceIte,reduceEqDiff]
  refine zw hS215 (fun b222 h223 hS224=>?_)
  simp only [zl,B0,reduceIte,reduceEqDiff]
  refine q9 (us:=[.int .i64 x200.To,.int .i64 x200.From,.int .i64 x200.Term,.bool x200.Asks,.int .i64 x200.Last,.int .i64 x200.Long,
    .bool x200.Grant]) rfl (cs':=[.int .i64 x200.To,.int .i64 x200.From,.int .i64 x200.Term,.bool x200.Asks,.int .i64 x200.Last,.int .i64 x200.Long,
    .bool x200.Grant]) hS224 hW rfl rfl (nle rfl) rfl (fun h226 hS227=>?_)
  simp only [qa,B0,reduceIte,reduceEqDiff]
  refine zy hS227 hW (by simp only [B0,reduceIte,reduceEqDiff]) (fun h228 hS229=>?_)
  simp only [zv,q7d,qg,jv,jc,qr,Nat.reduceAdd,Nat.zero_add,Nat.add_zero,qu,ja,B0,reduceIte,reduceEqDiff]
  refine qw (v := .int .i64 x200.To) rfl ?_
  simp only [f217,ja,B0,reduceIte,reduceEqDiff]
  refine qw (v := .int .i64 (List.length v_0.Servers:Int)) rfl ?_
  simp only [uv,qr,qbd,yf,B0,reduceIte,reduceEqDiff]
  refine qdc rfl (qm zb (qm zb (qm zb qz))) (wi (fun b hb=>decide_eq_true hb) x200.To 0 (IntKind.wrap .i64
    ((List.length v_0.Servers:Int) - 1)) _ rfl) ?_
  simp only [qi6,qr,j9,jf,B0,reduceIte,reduceEqDiff]
  simp only [zc (g:=96),B0,reduceIte,reduceEqDiff]
  refine k7 (t:=(!(zt x200.To 0 (IntKind.wrap .i64 ((List.length v_0.Servers:Int) - 1))))) (fun hg230=>?_) (fun hg230=>?_)
  ·rw [iteT hg230] at hF205
   simp only [hg230,zc (g:=96),xd,kr,qr,zj,jf,zc (g:=104),zc (g:=111),zn,ze,qez,
     qg,qf,qd,qa,za,B0,reduceIte,reduceEqDiff]
   have e231:=qk hF205
   subst e231
   have ho232:=hr206 _ rfl
   have hk233:=hk204
   rw [ho232] at hk233
   dsimp only [jnO] at hk233
   apply hR210
   have he:=qk hk233
   subst he
   simp only [zp,B0,reduceIte,reduceEqDiff]
   exact rfl
  rw [iteF hg230] at hF205
  simp only [hg230,zc (g:=96),zu,jc,qr,Nat.reduceAdd,Nat.zero_add,Nat.add_zero,qu,ja,B0,reduceIte,reduceEqDiff]
  refine qw (v := .int .i64 x200.From) rfl ?_
  simp only [hg230,zc (g:=96),zu,f217,ja,B0,reduceIte,reduceEqDiff]
  refine qw (v := .int .i64 (List.length v_0.Servers:Int)) rfl ?_
  simp only [hg230,zc (g:=96),zu,uv,qr,qbd,yf,B0,reduceIte,reduceEqDiff]
  refine qdc rfl (qm zb (qm zb (qm zb qz))) (wi (fun b hb=>decide_eq_true hb) x200.From 0 (IntKind.wrap .i64
    ((List.length v_0.Servers:Int) - 1)) _ rfl) ?_
  simp only [hg230,zc (g:=96),zu,qi6,qr,j9,kr,zk,jf,B0,reduceIte,reduceEqDiff]
  refine qfv 6 (fun fr' h'=>Sep h' (geL h.length) ([])∧fr' 110 = .bool ((!(zt x200.From 0 (IntKind.wrap .i64 ((List.length v_0.Servers:Int) - 1))))||(decide
    (x200.To=x200.From)))∧fr' 1 = .ref [lst qi v_0.Servers,lst qe v_0.Post,
    lst ql v_0.Led] 0∧fr' 3 = .ref [.int .i64 (List.length v_0.Servers:Int)] 0∧fr' 7 = .ref [.int .i64 x200.To,.int .i64 x200.From,.int .i64 x200.Term,
    .bool x200.Asks,.int .i64 x200.Last,.int .i64 x200.Long,
    .bool x200.Grant] 0∧fr' 84=lst qe v_0.Post∧fr' 85 = .int .i64 (List.length v_0.Post:Int)∧fr' 86 = .int .i64 (i199:Int)) rfl (fun Q234 hN235=>?_) ?_
  ·simp only [List.take_succ_cons,List.take_zero]
   simp only [zc (g:=104),B0,reduceIte,reduceEqDiff]
   refine k7 (t:=(!(zt x200.From 0 (IntKind.wrap .i64 ((List.length v_0.Servers:Int) - 1))))) (fun hg236=>?_) (fun hg236=>?_)
   ·simp only [hg236,zc (g:=104),xd,kr,qr,zj,zn,qn,B0,reduceIte,reduceEqDiff]
    exact hN235 _ _ ⟨hS229,by rw [orT hg236]; simp only [B0,reduceIte,reduceEqDiff],f216,f217,rfl,f218,f221,f220⟩
   ·simp only [hg236,zc (g:=104),zu,jc,qr,Nat.reduceAdd,Nat.zero_add,Nat.add_zero,qu,ja,B0,reduceIte,reduceEqDiff]
    refine qw (v := .int .i64 x200.To) rfl ?_
    simp only [hg236,zc (g:=104),zu,jc,qr,Nat.reduceAdd,Nat.zero_add,Nat.add_zero,qu,ja,B0,reduceIte,reduceEqDiff]
    refine qw (v := .int .i64 x200.From) rfl ?_
    simp only [hg236,zc (g:=104),zu,uv,qr,yh,kr,zk,zn,qn,B0,reduceIte,reduceEqDiff]
    exact hN235 _ _ ⟨hS229,by rw [orF hg236]; simp only [B0,reduceIte,reduceEqDiff],f216,f217,rfl,f218,f221,f220⟩
  rintro fr237 h245 ⟨hS246,f238,f239,f240,f241,f242,f243,f244⟩
  simp only [List.drop_succ_cons,List.drop_zero]
  simp only [f238,jf,qr,B0,reduceIte,reduceEqDiff]
  simp only [zc (g:=111),B0,reduceIte,reduceEqDiff]
  refine k7 (t:=((!(zt x200.From 0 (IntKind.wrap .i64 ((List.length v_0.Servers:Int) - 1))))||(decide (x200.To=x200.From)))) (fun hg247=>?_)
    (fun hg247=>?_)
  ·rw [iteT hg247] at hF205
   simp only [hg247,zc (g:=111),xd,kr,qr,zj,zn,ze,qez,qg,qf,qd,qa,za,B0,
     reduceIte,reduceEqDiff]
   have e248:=qk hF205
   subst e248
   have ho249:=hr206 _ rfl
   have hk250:=hk204
   rw [ho249] at hk250
   dsimp only [jnO] at hk250
   apply hR210
   have he:=qk hk250
   subst he
   simp only [zp,B0,reduceIte,reduceEqDiff]
   exact rfl
  rw [iteF hg247] at hF205
  simp only [hg247,zc (g:=111),zu,f241,jc,qr,Nat.reduceAdd,Nat.zero_add,Nat.add_zero,qu,ja,B0,reduceIte,reduceEqDiff]
  refine qw (v := .int .i64 x200.Term) rfl ?_
  simp only [hg247,zc (g:=111),zu,f239,jc,qr,Nat.reduceAdd,Nat.zero_add,Nat.add_zero,qu,ja,B0,reduceIte,reduceEqDiff]
  refine qw (v:=lst qi v_0.Servers) rfl ?_
  simp only [hg247,zc (g:=111),zu,f241,jc,qr,Nat.reduceAdd,Nat.zero_add,Nat.add_zero,qu,ja,B0,reduceIte,reduceEqDiff]
  refine qw (v := .int .i64 x200.From) rfl ?_
  obtain ⟨x251,hx252,hF253⟩:=qj hF205
  simp only [hg247,zc (g:=111),zu,qee,B0,reduceIte,reduceEqDiff]
  refine qw (v := .ref (qi x251) 0) (yl hx252 rfl) ?_
  simp only [hg247,zc (g:=111),zu,jc,qr,Nat.reduceAdd,Nat.zero_add,Nat.add_zero,qu,ja,B0,reduceIte,reduceEqDiff]
  refine qw (v := .int .i64 x251.Term) rfl ?_
  simp only [hg247,zc (g:=111),zu,yf,B0,reduceIte,reduceEqDiff]
  refine qdc rfl (qm zb (qm zb (qm zb qz))) (wi (fun b hb=>decide_eq_true hb) x200.Term 0 x251.Term _ rfl) ?_
  simp only [hg247,zc (g:=111),zu,qi6,qr,j9,kr,zk,zn,ze,B0,reduceIte,reduceEqDiff]
  refine zf (t:=(!(zt x200.Term 0 x251.Term))) (fun hc254=>?_) (fun hc254=>?_)
  ·rw [iteT hc254] at hF253
   simp only [qg,qf,qd,qa,za,B0,reduceIte,reduceEqDiff]
   have e255:=qk hF253
   subst e255
   have ho256:=hr206 _ rfl
   have hk257:=hk204
   rw [ho256] at hk257
   dsimp only [jnO] at hk257
   apply hR210
   have he:=qk hk257
   subst he
   simp only [zp,B0,reduceIte,reduceEqDiff]
   exact rfl
  rw [iteF hc254] at hF253
  simp only [zi,q46,qg,qf,f241,qt,qb,Nat.reduceAdd,Nat.zero_add,Nat.add_zero,qu,qo,B0,reduceIte,reduceEqDiff]
  refine qh (v := .bool x200.Asks) rfl ?_
  simp only [qd,B0,reduceIte,reduceEqDiff]
  refine z7 15 (fun fr' h'=>Sep h' (geL h.length) ([])∧fr' 141 = .bool (x200.Asks&&((x200.Grant||(!(zt x200.Last (-1) 100))) ||
    (!(zt x200.Long 0 30))))∧fr' 1 = .ref [lst qi v_0.Servers,lst qe v_0.Post,
    lst ql v_0.Led] 0∧fr' 3 = .ref [.int .i64 (List.length v_0.Servers:Int)] 0∧fr' 7 = .ref [.int .i64 x200.To,.int .i64 x200.From,.int .i64 x200.Term,
    .bool x200.Asks,.int .i64 x200.Last,.int .i64 x200.Long,
    .bool x200.Grant] 0∧fr' 84=lst qe v_0.Post∧fr' 85 = .int .i64 (List.length v_0.Post:Int)∧fr' 86 = .int .i64 (i199:Int)) (fun Q258 hN259=>?_) ?_
  ·simp only [List.take_succ_cons,List.take_zero]
   simp only [qc (g:=126),B0,reduceIte,reduceEqDiff]
   refine qy (t:=x200.Asks) (fun hg260=>?_) (fun hg260=>?_)
   ·simp only [hg260,qc (g:=126),zg,f241,qt,qb,Nat.reduceAdd,Nat.zero_add,Nat.add_zero,qu,qo,B0,reduceIte,reduceEqDiff]
    refine qh (v := .bool x200.Grant) rfl ?_
    simp only [hg260,qc (g:=126),zg,qd,B0,reduceIte,reduceEqDiff]
    refine z7 5 (fun fr' h'=>Sep h' (geL h.length) ([])∧fr' 134 = .bool (x200.Grant||(!(zt x200.Last (-1) 100)))∧fr' 1 = .ref [lst qi v_0.Servers,
      lst qe v_0.Post,lst ql v_0.Led] 0∧fr' 3 = .ref [.int .i64 (List.length v_0.Servers:Int)] 0∧fr' 7 = .ref [.int .i64 x200.To,
      .int .i64 x200.From,.int .i64 x200.Term,.bool x200.Asks,.int .i64 x200.Last,.int .i64 x200.Long,
      .bool x200.Grant] 0∧fr' 84=lst qe v_0.Post∧fr' 85 = .int .i64 (List.length v_0.Post:Int)∧fr' 86 = .int .i64
      (i199:Int)∧fr' 126 = .bool x200.Asks) (fun Q261 hN262=>?_) ?_
    ·simp only [List.take_succ_cons,List.take_zero]
     simp only [qc (g:=129),B0,reduceIte,reduceEqDiff]
     refine qy (t:=x200.Grant) (fun hg263=>?_) (fun hg263=>?_)
     ·simp only [hg263,qc (g:=129),zq,hg260,qc (g:=126),zg,qs,qb,zj,qa,qn,B0,reduceIte,
       reduceEqDiff]
      exact hN262 _ _ ⟨hS246,by rw [orT hg263]; simp only [B0,reduceIte,reduceEqDiff],f239,f240,by simp only [f241,B0,reduceIte,reduceEqDiff,hg263],f242,f243,
        f244,by simp only [hg260,B0,reduceIte,reduceEqDiff]⟩
     ·simp only [hg263,qc (g:=129),qp,f241,qt,qb,Nat.reduceAdd,Nat.zero_add,Nat.add_zero,qu,qo,B0,reduceIte,reduceEqDiff]
      refine qh (v := .int .i64 x200.Last) rfl ?_
      simp only [hg263,qc (g:=129),qp,qv,B0,reduceIte,reduceEqDiff]
      refine je rfl (qm zb (qm zb (qm zb qz))) (wi (fun b hb=>decide_eq_true hb) x200.Last (-1) 100 _ rfl) ?_
      simp only [hg263,qc (g:=129),qp,jj,qb,j9,hg260,qc (g:=126),zg,qs,zk,qa,qn,B0,
        reduceIte,reduceEqDiff]
      exact hN262 _ _ ⟨hS246,by rw [orF hg263]; simp only [B0,reduceIte,reduceEqDiff],f239,f240,by simp only [f241,B0,reduceIte,reduceEqDiff,hg263],f242,f243,
        f244,by simp only [hg260,B0,reduceIte,reduceEqDiff]⟩
    rintro fr264 h273 ⟨hS274,f265,f266,f267,f268,f269,f270,f271,f272⟩
    simp only [List.drop_succ_cons,List.drop_zero]
    simp only [f272,hg260,qc (g:=126),zg,f265,qd,B0,reduceIte,reduceEqDiff]
    refine z7 5 (fun fr' h'=>Sep h' (geL h.length) ([])∧fr' 140 = .bool ((x200.Grant||(!(zt x200.Last (-1) 100))) ||
      (!(zt x200.Long 0 30)))∧fr' 1 = .ref [lst qi v_0.Servers,lst qe v_0.Post,
      lst ql v_0.Led] 0∧fr' 3 = .ref [.int .i64 (List.length v_0.Servers:Int)] 0∧fr' 7 = .ref [.int .i64 x200.To,.int .i64 x200.From,.int .i64 x200.Term,
      .bool x200.Asks,.int .i64 x200.Last,.int .i64 x200.Long,
      .bool x200.Grant] 0∧fr' 84=lst qe v_0.Post∧fr' 85 = .int .i64 (List.length v_0.Post:Int)∧fr' 86 = .int .i64
      (i199:Int)∧fr' 126 = .bool x200.Asks) (fun Q275 hN276=>?_) ?_
    ·simp only [List.take_succ_cons,List.take_zero]
     simp only [qc (g:=135),B0,reduceIte,reduceEqDiff]
     refine qy (t:=(x200.Grant||(!(zt x200.Last (-1) 100)))) (fun hg277=>?_) (fun hg277=>?_)
     ·simp only [hg277,qc (g:=135),zq,f272,hg260,qc (g:=126),zg,qs,qb,zj,qa,qn,B0,reduceIte,
       reduceEqDiff]
      exact hN276 _ _ ⟨hS274,by rw [orT hg277]; simp only [B0,reduceIte,reduceEqDiff],f266,f267,f268,f269,f270,f271,by simp only [f272,hg260,B0,reduceIte,
        reduceEqDiff]⟩
     ·simp only [hg277,qc (g:=135),qp,f268,qt,qb,Nat.reduceAdd,Nat.zero_add,Nat.add_zero,qu,qo,B0,reduceIte,reduceEqDiff]
      refine qh (v := .int .i64 x200.Long) rfl ?_
      simp only [hg277,qc (g:=135),qp,qv,B0,reduceIte,reduceEqDiff]
      refine je rfl (qm zb (qm zb (qm zb qz))) (wi (fun b hb=>decide_eq_true hb) x200.Long 0 30 _ rfl) ?_
      simp only [hg277,qc (g:=135),qp,jj,qb,j9,f272,hg260,qc (g:=126),zg,qs,zk,qa,qn,
        B0,reduceIte,reduceEqDiff]
      exact hN276 _ _ ⟨hS274,by rw [orF hg277]; simp only [B0,reduceIte,reduceEqDiff],f266,f267,f268,f269,f270,f271,by simp only [f272,hg260,B0,reduceIte,
        reduceEqDiff]⟩
    rintro fr278 h287 ⟨hS288,f279,f280,f281,f282,f283,f284,f285,f286⟩
    simp only [List.drop_succ_cons,List.drop_zero]
    simp only [f286,hg260,qs,qb,zj,f279,qa,qn,B0,reduceIte,reduceEqDiff]
    exact hN259 _ _ ⟨hS288,by rw [xl hg260]; simp only [B0,reduceIte,reduceEqDiff],f280,f281,by simp only [f282,B0,reduceIte,reduceEqDiff,hg260],f283,f284,f285⟩
   ·simp only [hg260,qc (g:=126),jl,qc (g:=129),ym,qc (g:=135),qs,qb,zk,qa,qn,B0,
     reduceIte,reduceEqDiff]
    exact hN259 _ _ ⟨hS246,by rw [xm hg260]; simp only [B0,reduceIte,reduceEqDiff],f239,f240,by simp only [f241,B0,reduceIte,reduceEqDiff,hg260],f242,f243,f244⟩
  rintro fr289 h297 ⟨hS298,f290,f291,f292,f293,f294,f295,f296⟩
  simp only [List.drop_succ_cons,List.drop_zero]
  simp only [f290,qd,B0,reduceIte,reduceEqDiff]
  refine z7 14 (fun fr' h'=>Sep h' (geL h.length) ([])∧fr' 156 = .bool ((x200.Asks&&((x200.Grant||(!(zt x200.Last (-1) 100))) ||
    (!(zt x200.Long 0 30))))||((!x200.Asks)&&((decide (x200.Last≠0))||(decide (x200.Long≠0)))))∧fr' 1 = .ref [lst qi v_0.Servers,
    lst qe v_0.Post,lst ql v_0.Led] 0∧fr' 3 = .ref [.int .i64
    (List.length v_0.Servers:Int)] 0∧fr' 84=lst qe v_0.Post∧fr' 85 = .int .i64 (List.length v_0.Post:Int)∧fr' 86 = .int .i64 (i199:Int))
    (fun Q299 hN300=>?_) ?_
  ·simp only [List.take_succ_cons,List.take_zero]
   simp only [qc (g:=142),B0,reduceIte,reduceEqDiff]
   refine qy (t:=(x200.Asks&&((x200.Grant||(!(zt x200.Last (-1) 100)))||(!(zt x200.Long 0 30))))) (fun hg301=>?_) (fun hg301=>?_)
   ·simp only [hg301,qc (g:=142),zq,qc (g:=146),ym,qc (g:=150),qs,qb,zj,qa,qn,B0,
     reduceIte,reduceEqDiff]
    exact hN300 _ _ ⟨hS298,by rw [orT hg301]; simp only [B0,reduceIte,reduceEqDiff],f291,f292,f294,f295,f296⟩
   ·simp only [hg301,qc (g:=142),qp,f293,qt,qb,Nat.reduceAdd,Nat.zero_add,Nat.add_zero,qu,qo,B0,reduceIte,reduceEqDiff]
    refine qh (v := .bool x200.Asks) rfl ?_
    simp only [hg301,qc (g:=142),qp,jj,qb,j9,qd,B0,reduceIte,reduceEqDiff]
    refine z7 9 (fun fr' h'=>Sep h' (geL h.length) ([])∧fr' 155 = .bool ((!x200.Asks)&&((decide (x200.Last≠0))||(decide
      (x200.Long≠0))))∧fr' 1 = .ref [lst qi v_0.Servers,lst qe v_0.Post,
      lst ql v_0.Led] 0∧fr' 3 = .ref [.int .i64 (List.length v_0.Servers:Int)] 0∧fr' 84=lst qe v_0.Post∧fr' 85 = .int .i64
      (List.length v_0.Post:Int)∧fr' 86 = .int .i64 (i199:Int)∧fr' 142 = .bool (x200.Asks&&((x200.Grant||(!(zt x200.Last (-1) 100))) ||
      (!(zt x200.Long 0 30))))) (fun Q302 hN303=>?_) ?_
    ·simp only [List.take_succ_cons,List.take_zero]
     simp only [qc (g:=146),B0,reduceIte,reduceEqDiff]
     refine qy (t:=(!x200.Asks)) (fun hg304=>?_) (fun hg304=>?_)
     ·simp only [hg304,qc (g:=146),zg,f293,qt,qb,Nat.reduceAdd,Nat.zero_add,Nat.add_zero,qu,qo,B0,reduceIte,reduceEqDiff]
      refine qh (v := .int .i64 x200.Last) rfl ?_
      simp only [hg304,qc (g:=146),zg,qx,qb,qd1,qd,B0,reduceIte,reduceEqDiff]
      refine z7 4 (fun fr' h'=>Sep h' (geL h.length) ([])∧fr' 154 = .bool ((decide (x200.Last≠0))||(decide
        (x200.Long≠0)))∧fr' 1 = .ref [lst qi v_0.Servers,lst qe v_0.Post,
        lst ql v_0.Led] 0∧fr' 3 = .ref [.int .i64 (List.length v_0.Servers:Int)] 0∧fr' 84=lst qe v_0.Post∧fr' 85 = .int .i64
        (List.length v_0.Post:Int)∧fr' 86 = .int .i64 (i199:Int)∧fr' 142 = .bool (x200.Asks&&((x200.Grant||(!(zt x200.Last (-1) 100))) ||
        (!(zt x200.Long 0 30))))∧fr' 146 = .bool (!x200.Asks)) (fun Q305 hN306=>?_) ?_
      ·simp only [List.take_succ_cons,List.take_zero]
       simp only [qc (g:=150),B0,reduceIte,reduceEqDiff]
       refine qy (t:=(decide (x200.Last≠0))) (fun hg307=>?_) (fun hg307=>?_)
       ·simp only [hg307,qc (g:=150),zq,hg304,qc (g:=146),zg,qs,qb,zj,qa,qn,B0,reduceIte,
         reduceEqDiff]
        exact hN306 _ _ ⟨hS298,by rw [orT hg307]; simp only [B0,reduceIte,reduceEqDiff],f291,f292,f294,f295,f296,by simp only [hg301,B0,reduceIte,
          reduceEqDiff],by simp only [hg304,B0,reduceIte,reduceEqDiff]⟩
       ·simp only [hg307,qc (g:=150),qp,f293,qt,qb,Nat.reduceAdd,Nat.zero_add,Nat.add_zero,qu,qo,B0,reduceIte,
         reduceEqDiff]
        refine qh (v := .int .i64 x200.Long) rfl ?_
        simp only [hg307,qc (g:=150),qp,qx,qb,qd1,hg304,qc (g:=146),zg,qs,zk,qa,qn,
          B0,reduceIte,reduceEqDiff]
        exact hN306 _ _ ⟨hS298,by rw [orF hg307]; simp only [B0,reduceIte,reduceEqDiff],f291,f292,f294,f295,f296,by simp only [hg301,B0,reduceIte,
          reduceEqDiff],by simp only [hg304,B0,reduceIte,reduceEqDiff]⟩
      rintro fr308 h317 ⟨hS318,f309,f310,f311,f312,f313,f314,f315,f316⟩
      simp only [List.drop_succ_cons,List.drop_zero]
      simp only [f315,hg301,qc (g:=142),qp,f316,hg304,qs,qb,zj,f309,qa,qn,B0,reduceIte,reduceEqDiff]
      exact hN303 _ _ ⟨hS318,by rw [xl hg304]; simp only [B0,reduceIte,reduceEqDiff],f310,f311,f312,f313,f314,by simp only [f315,hg301,B0,reduceIte,
        reduceEqDiff]⟩
     ·simp only [hg304,qc (g:=146),jl,qc (g:=150),ym,hg301,qc (g:=142),qp,qs,qb,zk,
       qa,qn,B0,reduceIte,reduceEqDiff]
      exact hN303 _ _ ⟨hS298,by rw [xm hg304]; simp only [B0,reduceIte,reduceEqDiff],f291,f292,f294,f295,f296,by simp only [hg301,B0,reduceIte,reduceEqDiff]⟩
    rintro fr319 h327 ⟨hS328,f320,f321,f322,f323,f324,f325,f326⟩
    simp only [List.drop_succ_cons,List.drop_zero]
    simp only [f326,hg301,qs,qb,zk,f320,qa,qn,B0,reduceIte,reduceEqDiff]
    exact hN300 _ _ ⟨hS328,by rw [orF hg301]; simp only [B0,reduceIte,reduceEqDiff],f321,f322,f323,f324,f325⟩
  rintro fr329 h336 ⟨hS337,f330,f331,f332,f333,f334,f335⟩
  simp only [List.drop_succ_cons,List.drop_zero]
  simp only [qa,f330,ze,B0,reduceIte,reduceEqDiff]
  refine zf (t:=((x200.Asks&&((x200.Grant||(!(zt x200.Last (-1) 100)))||(!(zt x200.Long 0 30))))||((!x200.Asks)&&((decide (x200.Last≠0)) ||
    (decide (x200.Long≠0)))))) (fun hc338=>?_) (fun hc338=>?_)
  ·rw [iteT hc338] at hF253
   simp only [qg,qf,qd,qa,za,B0,reduceIte,reduceEqDiff]
   have e339:=qk hF253
   subst e339
   have ho340:=hr206 _ rfl
   have hk341:=hk204
   rw [ho340] at hk341
   dsimp only [jnO] at hk341
   apply hR210
   have he:=qk hk341
   subst he
   simp only [zp,B0,reduceIte,reduceEqDiff]
   exact rfl
  rw [iteF hc338] at hF253
  simp only [zi,qn,B0,reduceIte,reduceEqDiff]
  have e342:=qk hF253
  exact hN208 _ _ _ e342.symm ⟨f331,f332,f333,hS337⟩ (f335) (f334)
 rintro _ fr344 h345 rfl ⟨f347,f348,f349,hS346⟩
 dsimp only [jnO] at hk204
 unfold qd3 at hk204
 simp only [qua,qg,qf,f347,qt,qb,Nat.reduceAdd,Nat.zero_add,Nat.add_zero,qu,qo,B0,reduceIte,reduceEqDiff]
 refine qh (v:=lst ql v_0.Led) rfl ?_
 obtain ⟨v350,hx351,hF352⟩:=qj hk204
 simp only [qpp,f348,qv,B0,reduceIte,reduceEqDiff]
 refine je rfl (qm zm (qm qme qz)) (qgp (fun b hb=>decide_eq_true hb) v_0.Led (g1:=101) (caps1:=[.ref [.int .i64
   (List.length v_0.Servers:Int)] 0]) rfl (fun a0=>some (ul a0 (List.length v_0.Servers:Int))) (fun W h hW a0 r hr=>qjj hW a0
   (List.length v_0.Servers:Int) r hr) v350 hx351) ?_
 simp only [jj,qb,j9,qd,qa,za,B0,reduceIte,reduceEqDiff]
 have he:=qk hF352
 subst he
 simp only [zp,B0,reduceIte,reduceEqDiff]
 exact rfl
theorem qfy {W:Nat→Bool}{h:Heap} (hW:∀ b,
  (geL h.length) b→W b=true) (e_0:Election) (r:Bool) (hF:w5 e_0=some r) : Ret E W 12 [.agg [lst qi e_0.Servers,lst qe e_0.Post,
  lst ql e_0.Led]] h (fun v h'=>cut h.length h' E.sz false 9 v=some (.bool r)):=by
 refine Ret.of (fn:=x12) rfl (Run.of ?_)
 unfold w5 at hF
 have zf0:zh [.agg [lst qi e_0.Servers,lst qe e_0.Post,lst ql e_0.Led]] 0 = .agg [lst qi e_0.Servers,lst qe e_0.Post,
   lst ql e_0.Led]:=rfl
 generalize zh [.agg [lst qi e_0.Servers,lst qe e_0.Post,lst ql e_0.Led]]=fr0 at zf0 ⊢
 have hS:Sep h (geL h.length) []:=Sep.nil h
 simp only [x12,qg,qf,kc,zf0,B0,reduceIte,reduceEqDiff]
 refine jo (cs:=[lst qi e_0.Servers,lst qe e_0.Post,lst ql e_0.Led]) hS rfl rfl rfl (fun b1 h2 hS3=>?_)
 simp only [qd,qa,B0,reduceIte,reduceEqDiff]
 refine zy hS3 hW (by simp only [B0,reduceIte,reduceEqDiff]) (fun h5 hS6=>?_)
 simp only [zv,qg,qf,qo,B0,reduceIte,reduceEqDiff]
 refine qh (v := .agg [lst qi e_0.Servers,lst qe e_0.Post,lst ql e_0.Led]) rfl ?_
 obtain ⟨v7,hx8,hF9⟩:=qj hF
 simp only [qv,B0,reduceIte,reduceEqDiff]
 refine je rfl (qm (jm (qm zm (qm zm (qm zm qz)))) qz) (qa2 (fun b hb=>decide_eq_true hb) e_0 v7 hx8) ?_
 simp only [qd,qa,za,B0,reduceIte,reduceEqDiff]
 have he:=qk hF9
 subst he
 simp only [zp,B0,reduceIte,reduceEqDiff]
 exact rfl
theorem qj9 {W:Nat→Bool}{h:Heap} (hW:∀ b,
  (geL h.length) b→W b=true) (v_0:Vote) (cap_0:Int) (r:Bool) (hF:some (qae v_0 cap_0)=some r) : Ret E W 55 [.agg [.int .i64 v_0.Term,
  .int .i64 v_0.Leader],.ref (cI cap_0) 0] h (fun v h'=>cut h.length h' E.sz false 9 v=some (.bool r)):=by
 refine Ret.of (fn:=x55) rfl (Run.of ?_)
 unfold qae at hF
 have zf0:zh [.agg [.int .i64 v_0.Term,.int .i64 v_0.Leader],.ref (cI cap_0) 0] 0 = .agg [.int .i64 v_0.Term,.int .i64 v_0.Leader]:=rfl
 have zf1:zh [.agg [.int .i64 v_0.Term,.int .i64 v_0.Leader],.ref (cI cap_0) 0] 1 = .ref (cI cap_0) 0:=rfl
 generalize zh [.agg [.int .i64 v_0.Term,.int .i64 v_0.Leader],.ref (cI cap_0) 0]=fr0 at zf0 zf1 ⊢
 have hS:Sep h (geL h.length) []:=Sep.nil h
 simp only [x55,qg,qf,kc,zf0,B0,reduceIte,reduceEqDiff]
 refine jo (cs:=[.int .i64 v_0.Term,.int .i64 v_0.Leader]) hS rfl rfl rfl (fun b1 h2 hS3=>?_)
 simp only [qd,qa,B0,reduceIte,reduceEqDiff]
 refine zy hS3 hW (by simp only [B0,reduceIte,reduceEqDiff]) (fun h5 hS6=>?_)
 simp only [zv,q53,qg,qf,qt,qb,Nat.reduceAdd,Nat.zero_add,Nat.add_zero,qu,qo,B0,reduceIte,reduceEqDiff]
 refine qh (v := .int .i64 v_0.Term) rfl ?_
 simp only [zf1,qo,B0,reduceIte,reduceEqDiff]
 refine qh (v := .int .i64 cap_0) rfl ?_
 simp only [qx,qb,yh,qd,qa,za,B0,reduceIte,reduceEqDiff]
 have he:=qk hF
 subst he
 simp only [zp,B0,reduceIte,reduceEqDiff]
 exact rfl
end Go.Proofs.Ytpddolihbnfahaa.X
