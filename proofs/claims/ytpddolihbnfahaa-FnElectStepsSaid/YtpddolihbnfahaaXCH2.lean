/- The functions' code comes to what the plain functions say (2). -/
import Derived.Test.YtpddolihbnfahaaXCH1
set_option linter.unusedVariables false
set_option linter.unusedSimpArgs false
set_option maxRecDepth 100000
namespace Go.Proofs.Ytpddolihbnfahaa.X
open Go
open Nat (reduceEqDiff)
theorem qk0 {W:Nat→Bool}{h:Heap} (hW:∀ b,
  (geL h.length) b→W b=true) (e_0:Election) (term_1:Int) (r:Int × Bool) (hF:qbs e_0 term_1=some r) : Ret E W 13 [.agg [lst qi e_0.Servers,
  lst qe e_0.Post,lst ql e_0.Led],.int .i64 term_1] h (fun v h'=>cut h.length h' E.sz false 9 v=some (.tup [.int .i64 r.1,.bool r.2])):=by
 refine Ret.of (fn:=x13) rfl (Run.of ?_)
 unfold qbs at hF
 have zf0:zh [.agg [lst qi e_0.Servers,lst qe e_0.Post,lst ql e_0.Led],.int .i64 term_1] 0 = .agg [lst qi e_0.Servers,
   lst qe e_0.Post,lst ql e_0.Led]:=rfl
 have zf1:zh [.agg [lst qi e_0.Servers,lst qe e_0.Post,lst ql e_0.Led],.int .i64 term_1] 1 = .int .i64 term_1:=rfl
 generalize zh [.agg [lst qi e_0.Servers,lst qe e_0.Post,lst ql e_0.Led],.int .i64 term_1]=fr0 at zf0 zf1 ⊢
 have hS:Sep h (geL h.length) []:=Sep.nil h
 simp only [x13,qg,qf,kc,zf0,B0,reduceIte,reduceEqDiff]
 refine jo (cs:=[lst qi e_0.Servers,lst qe e_0.Post,lst ql e_0.Led]) hS rfl rfl rfl (fun b1 h2 hS3=>?_)
 simp only [kc,zf1,B0,reduceIte,reduceEqDiff]
 refine jo (cs:=[.int .i64 term_1]) hS3 rfl rfl rfl (fun b5 h6 hS7=>?_)
 simp only [qd,qa,B0,reduceIte,reduceEqDiff]
 refine zy (Sep.m1 hS7) hW (by simp only [B0,reduceIte,reduceEqDiff]) (fun h9 hS10=>?_)
 refine zy hS10 hW (by simp only [B0,reduceIte,reduceEqDiff]) (fun h11 hS12=>?_)
 simp only [zv,qz1,qg,qf,qt,qb,Nat.reduceAdd,Nat.zero_add,Nat.add_zero,qu,qo,B0,reduceIte,reduceEqDiff]
 refine qh (v:=lst ql e_0.Led) rfl ?_
 obtain ⟨v13,hx14,hF15⟩:=qj hF
 simp only [qpp,qv,B0,reduceIte,reduceEqDiff]
 refine je rfl (qm zm (qm qme qz)) (qei (fun b hb=>decide_eq_true hb) e_0.Led (g1:=55) (caps1:=[.ref [.int .i64 term_1] 0]) rfl
   (fun a0=>some (qae a0 term_1)) (fun W h hW a0 r hr=>qj9 hW a0 term_1 r hr) v13 hx14) ?_
 simp only [qd,qa,q5l,qg,qf,qo,B0,reduceIte,reduceEqDiff]
 refine qh (v := .agg [lst qi e_0.Servers,lst qe e_0.Post,lst ql e_0.Led]) rfl ?_
 obtain ⟨v16,hx17,hF18⟩:=qj hF15
 simp only [qv,B0,reduceIte,reduceEqDiff]
 refine je rfl (qm (jm (qm zm (qm zm (qm zm qz)))) qz) (qa2 (fun b hb=>decide_eq_true hb) e_0 v16 hx17) ?_
 simp only [jj,qb,j9,qd,B0,reduceIte,reduceEqDiff]
 refine z7 3 (fun fr' h'=>Sep h' (geL h.length) ([])∧fr' 17 = .bool ((!v16)||(decide (v13<0)))∧fr' 2 = .ref [lst qi e_0.Servers,lst qe e_0.Post,
   lst ql e_0.Led] 0∧fr' 6 = .int .i64 v13) (fun Q19 hN20=>?_) ?_
 ·simp only [List.take_succ_cons,List.take_zero]
  simp only [qc (g:=14),B0,reduceIte,reduceEqDiff]
  refine qy (t:=(!v16)) (fun hg21=>?_) (fun hg21=>?_)
  ·simp only [hg21,qc (g:=14),zq,qs,qb,zj,qa,qn,B0,reduceIte,reduceEqDiff]
   exact hN20 _ _ ⟨hS12,by rw [orT hg21]; simp only [B0,reduceIte,reduceEqDiff],rfl,rfl⟩
  ·simp only [hg21,qc (g:=14),qp,qd,qx,qb,qdj,qs,zk,qa,qn,B0,reduceIte,reduceEqDiff]
   exact hN20 _ _ ⟨hS12,by rw [orF hg21]; simp only [B0,reduceIte,reduceEqDiff],rfl,rfl⟩
 rintro fr22 h26 ⟨hS27,f23,f24,f25⟩
 simp only [List.drop_succ_cons,List.drop_zero]
 simp only [qa,q7m,f23,ze,B0,reduceIte,reduceEqDiff]
 refine zf (t:=((!v16)||(decide (v13<0)))) (fun hc28=>?_) (fun hc28=>?_)
 ·rw [iteT hc28] at hF18
  simp only [qg,qf,qd,qa,za,B0,reduceIte,reduceEqDiff]
  have he:=qk hF18
  subst he
  simp only [wj,B0,reduceIte,reduceEqDiff]
  exact uz (qm rfl (qm rfl qz))
 rw [iteF hc28] at hF18
 simp only [zi,q0l,qg,qf,f24,qt,qb,Nat.reduceAdd,Nat.zero_add,Nat.add_zero,qu,qo,B0,reduceIte,reduceEqDiff]
 refine qh (v:=lst ql e_0.Led) rfl ?_
 obtain ⟨x29,hx30,hF31⟩:=qj hF18
 simp only [f25,qd,jr,B0,reduceIte,reduceEqDiff]
 refine qh (v := .ref (ql x29) 0) (yl hx30 rfl) ?_
 simp only [qt,qb,Nat.reduceAdd,Nat.zero_add,Nat.add_zero,qu,qo,B0,reduceIte,reduceEqDiff]
 refine qh (v := .int .i64 x29.Leader) rfl ?_
 simp only [qd,qa,za,B0,reduceIte,reduceEqDiff]
 have he:=qk hF31
 subst he
 simp only [wj,B0,reduceIte,reduceEqDiff]
 exact uz (qm rfl (qm rfl qz))
theorem qbr {W:Nat→Bool}{h:Heap} (hW:∀ b,
  (geL h.length) b→W b=true) (l_0:List Int) (r:Int) (hF:uc l_0=some r) : Ret E W 58 [lst cI l_0] h (fun v h'=>cut h.length h' E.sz false 9 v=some
  (.int .i64 r)):=by
 refine Ret.of (fn:=x58) rfl (Run.of ?_)
 unfold uc at hF
 have zf0:zh [lst cI l_0] 0=lst cI l_0:=rfl
 generalize zh [lst cI l_0]=fr0 at zf0 ⊢
 have hS:Sep h (geL h.length) []:=Sep.nil h
 simp only [x58,qg,qf,qd,qa,q16,zf0,zr,qb,zx,qx,yh,ze,B0,reduceIte,reduceEqDiff]
 refine zf (t:=(decide ((List.length l_0:Int)=0))) (fun hc1=>?_) (fun hc1=>?_)
 ·rw [iteT hc1] at hF
  simp only [qg,qf,qd,qa,za,B0,reduceIte,reduceEqDiff]
  have he:=qk hF
  subst he
  simp only [zp,B0,reduceIte,reduceEqDiff]
  exact rfl
 rw [iteF hc1] at hF
 obtain ⟨x2,hx3,hF4⟩:=qj hF
 simp only [zi,q41,qg,qf,zf0,qd,zr,qb,zx,qx,qbd,jr,B0,reduceIte,reduceEqDiff]
 refine qh (v := .ref (cI x2) 0) (yl hx3 rfl) ?_
 simp only [qo,B0,reduceIte,reduceEqDiff]
 refine qh (v := .int .i64 x2) rfl ?_
 simp only [qd,qa,za,B0,reduceIte,reduceEqDiff]
 have he:=qk hF4
 subst he
 simp only [zp,B0,reduceIte,reduceEqDiff]
 exact rfl
theorem qfe {W:Nat→Bool}{h:Heap} (hW:∀ b,
  (geL h.length) b→W b=true) (last_0:Int) (long_1:Int) (b_2:List Int) (r:Bool) (hF:qap last_0 long_1 b_2=some r) : Ret E W 57 [.int .i64 last_0,
  .int .i64 long_1,lst cI b_2] h (fun v h'=>cut h.length h' E.sz false 9 v=some (.bool r)):=by
 refine Ret.of (fn:=x57) rfl (Run.of ?_)
 unfold qap at hF
 have zf0:zh [.int .i64 last_0,.int .i64 long_1,lst cI b_2] 0 = .int .i64 last_0:=rfl
 have zf1:zh [.int .i64 last_0,.int .i64 long_1,lst cI b_2] 1 = .int .i64 long_1:=rfl
 have zf2:zh [.int .i64 last_0,.int .i64 long_1,lst cI b_2] 2=lst cI b_2:=rfl
 generalize zh [.int .i64 last_0,.int .i64 long_1,lst cI b_2]=fr0 at zf0 zf1 zf2 ⊢
 have hS:Sep h (geL h.length) []:=Sep.nil h
 obtain ⟨v1,hx2,hF3⟩:=qj hF
 simp only [x57,qg,qf,qd,qa,q64,zf0,zf2,qv,B0,reduceIte,reduceEqDiff]
 refine je rfl (qm zm qz) (qbr (fun b hb=>decide_eq_true hb) b_2 v1 hx2) ?_
 simp only [qx,qb,xb,qd,B0,reduceIte,reduceEqDiff]
 obtain ⟨v7,hx8,hF9⟩:=qj hF3
 refine z7 11 (fun fr' h'=>Sep h' (geL h.length) ([])∧fr' 22 = .bool v7) (fun Q4 hN5=>?_) ?_
 ·simp only [List.take_succ_cons,List.take_zero]
  simp only [qc (g:=11),B0,reduceIte,reduceEqDiff]
  refine qy (t:=(decide (v1<last_0))) (fun hg6=>?_) (fun hg6=>?_)
  ·rw [iteT hg6] at hx8
   simp only [hg6,qc (g:=11),zq,qc (g:=16),ym,qs,qb,zj,qa,qn,B0,reduceIte,reduceEqDiff]
   have e10:=qk hx8
   exact hN5 _ _ ⟨hS,by rw [←e10]; simp only [B0,reduceIte,reduceEqDiff]⟩
  ·rw [iteF hg6] at hx8
   obtain ⟨v11,hx12,hF13⟩:=qj hx8
   simp only [hg6,qc (g:=11),qp,zf0,qd,zf2,qv,B0,reduceIte,reduceEqDiff]
   refine je rfl (qm zm qz) (qbr (fun b hb=>decide_eq_true hb) b_2 v11 hx12) ?_
   simp only [hg6,qc (g:=11),qp,qx,qb,yh,qd,B0,reduceIte,reduceEqDiff]
   refine z7 5 (fun fr' h'=>Sep h' (geL h.length) ([])∧fr' 21 = .bool ((decide (last_0=v11))&&(decide ((List.length b_2:Int)≤long_1)))∧fr' 11 = .bool (decide
     (v1<last_0))) (fun Q14 hN15=>?_) ?_
   ·simp only [List.take_succ_cons,List.take_zero]
    simp only [qc (g:=16),B0,reduceIte,reduceEqDiff]
    refine qy (t:=(decide (last_0=v11))) (fun hg16=>?_) (fun hg16=>?_)
    ·simp only [hg16,qc (g:=16),zg,zf1,qd,zf2,zr,qb,zx,qx,qh4,hg6,qc (g:=11),qp,qs,
      zj,qa,qn,B0,reduceIte,reduceEqDiff]
     exact hN15 _ _ ⟨hS,by rw [xl hg16]; simp only [B0,reduceIte,reduceEqDiff],by simp only [hg6,B0,reduceIte,reduceEqDiff]⟩
    ·simp only [hg16,qc (g:=16),jl,hg6,qc (g:=11),qp,qs,qb,zk,qa,qn,B0,reduceIte,reduceEqDiff]
     exact hN15 _ _ ⟨hS,by rw [xm hg16]; simp only [B0,reduceIte,reduceEqDiff],by simp only [hg6,B0,reduceIte,reduceEqDiff]⟩
   rintro fr17 h20 ⟨hS21,f18,f19⟩
   simp only [List.drop_succ_cons,List.drop_zero]
   simp only [f19,hg6,qs,qb,zk,f18,qa,qn,B0,reduceIte,reduceEqDiff]
   have e22:=qk hF13
   exact hN5 _ _ ⟨hS21,by rw [←e22]; simp only [B0,reduceIte,reduceEqDiff]⟩
 rintro fr23 h25 ⟨hS26,f24⟩
 simp only [List.drop_succ_cons,List.drop_zero]
 simp only [f24,qd,qa,za,B0,reduceIte,reduceEqDiff]
 have he:=qk hF9
 subst he
 simp only [zp,B0,reduceIte,reduceEqDiff]
 exact rfl
theorem ql1 {W:Nat→Bool}{h:Heap} (hW:∀ b,
  (geL h.length) b→W b=true) (e_0:Election) (server_1:Int) (r:Bool × Bool) (hF:qac e_0 server_1=some r) : Ret E W 14 [.agg [lst qi e_0.Servers,
  lst qe e_0.Post,lst ql e_0.Led],.int .i64 server_1] h (fun v h'=>cut h.length h' E.sz false 9 v=some (.tup [.bool r.1,.bool r.2])):=by
 refine Ret.of (fn:=x14) rfl (Run.of ?_)
 unfold qac at hF
 have zf0:zh [.agg [lst qi e_0.Servers,lst qe e_0.Post,lst ql e_0.Led],.int .i64 server_1] 0 = .agg [lst qi e_0.Servers,
   lst qe e_0.Post,lst ql e_0.Led]:=rfl
 have zf1:zh [.agg [lst qi e_0.Servers,lst qe e_0.Post,lst ql e_0.Led],.int .i64 server_1] 1 = .int .i64 server_1:=rfl
 generalize zh [.agg [lst qi e_0.Servers,lst qe e_0.Post,lst ql e_0.Led],.int .i64 server_1]=fr0 at zf0 zf1 ⊢
 have hS:Sep h (geL h.length) []:=Sep.nil h
 simp only [x14,qg,qf,kc,zf0,B0,reduceIte,reduceEqDiff]
 refine jo (cs:=[lst qi e_0.Servers,lst qe e_0.Post,lst ql e_0.Led]) hS rfl rfl rfl (fun b1 h2 hS3=>?_)
 simp only [qd,qa,B0,reduceIte,reduceEqDiff]
 refine zy hS3 hW (by simp only [B0,reduceIte,reduceEqDiff]) (fun h5 hS6=>?_)
 simp only [zv,qt2,qg,qf,qo,B0,reduceIte,reduceEqDiff]
 refine qh (v := .agg [lst qi e_0.Servers,lst qe e_0.Post,lst ql e_0.Led]) rfl ?_
 obtain ⟨v7,hx8,hF9⟩:=qj hF
 simp only [qv,B0,reduceIte,reduceEqDiff]
 refine je rfl (qm (jm (qm zm (qm zm (qm zm qz)))) qz) (qa2 (fun b hb=>decide_eq_true hb) e_0 v7 hx8) ?_
 simp only [jj,qb,j9,qd,B0,reduceIte,reduceEqDiff]
 refine z7 8 (fun fr' h'=>Sep h' (geL h.length) ([])∧fr' 21 = .bool ((!v7)||(!(zt server_1 0 (IntKind.wrap .i64
   ((List.length e_0.Servers:Int) - 1)))))∧fr' 1 = .int .i64 server_1∧fr' 2 = .ref [lst qi e_0.Servers,lst qe e_0.Post,
   lst ql e_0.Led] 0) (fun Q10 hN11=>?_) ?_
 ·simp only [List.take_succ_cons,List.take_zero]
  simp only [qc (g:=13),B0,reduceIte,reduceEqDiff]
  refine qy (t:=(!v7)) (fun hg12=>?_) (fun hg12=>?_)
  ·simp only [hg12,qc (g:=13),zq,qs,qb,zj,qa,qn,B0,reduceIte,reduceEqDiff]
   exact hN11 _ _ ⟨hS6,by rw [orT hg12]; simp only [B0,reduceIte,reduceEqDiff],zf1,rfl⟩
  ·simp only [hg12,qc (g:=13),qp,zf1,qd,qt,qb,Nat.reduceAdd,Nat.zero_add,Nat.add_zero,qu,qo,B0,reduceIte,reduceEqDiff]
   refine qh (v:=lst qi e_0.Servers) rfl ?_
   simp only [hg12,qc (g:=13),qp,zr,qb,zx,qx,qbd,qv,B0,reduceIte,reduceEqDiff]
   refine je rfl (qm zb (qm zb (qm zb qz))) (wi (fun b hb=>decide_eq_true hb) server_1 0 (IntKind.wrap .i64
     ((List.length e_0.Servers:Int) - 1)) _ rfl) ?_
   simp only [hg12,qc (g:=13),qp,jj,qb,j9,qs,zk,qa,qn,B0,reduceIte,reduceEqDiff]
   exact hN11 _ _ ⟨hS6,by rw [orF hg12]; simp only [B0,reduceIte,reduceEqDiff],zf1,rfl⟩
 rintro fr13 h17 ⟨hS18,f14,f15,f16⟩
 simp only [List.drop_succ_cons,List.drop_zero]
 simp only [qa,q2n,f14,ze,B0,reduceIte,reduceEqDiff]
 refine zf (t:=((!v7)||(!(zt server_1 0 (IntKind.wrap .i64 ((List.length e_0.Servers:Int) - 1)))))) (fun hc19=>?_) (fun hc19=>?_)
 ·rw [iteT hc19] at hF9
  simp only [qg,qf,qd,qa,za,B0,reduceIte,reduceEqDiff]
  have he:=qk hF9
  subst he
  simp only [wj,B0,reduceIte,reduceEqDiff]
  exact uz (qm rfl (qm rfl qz))
 rw [iteF hc19] at hF9
 simp only [zi,qsf,qg,qf,f16,qt,qb,Nat.reduceAdd,Nat.zero_add,Nat.add_zero,qu,qo,B0,reduceIte,reduceEqDiff]
 refine qh (v:=lst qi e_0.Servers) rfl ?_
 obtain ⟨x20,hx21,hF22⟩:=qj hF9
 simp only [f15,qd,jr,B0,reduceIte,reduceEqDiff]
 refine qh (v := .ref (qi x20) 0) (yl hx21 rfl) ?_
 simp only [qt,qb,Nat.reduceAdd,Nat.zero_add,Nat.add_zero,qu,qo,B0,reduceIte,reduceEqDiff]
 refine qh (v:=lst cI x20.Log) rfl ?_
 simp only [qd,qa,q4c,qg,qf,q55,f16,qt,qb,Nat.reduceAdd,Nat.zero_add,Nat.add_zero,qu,qo,B0,reduceIte,reduceEqDiff]
 refine qh (v:=lst qi e_0.Servers) rfl ?_
 simp only [zr,qb,zx,qd,qa,B0,reduceIte,reduceEqDiff]
 obtain ⟨oc27,hX29,hk30⟩:=kn hF22
 simp only [q4z]
 refine wb (σ:=Int) e_0.Servers (fun i25 x26 s66=>qb0 x20 i25 x26 s66) (fun s fr' h'=>fr' 2 = .ref [lst qi e_0.Servers,
   lst qe e_0.Post,lst ql e_0.Led] 0∧fr' 6=lst cI x20.Log∧fr' 7 = .int .i64 s∧fr' 29=lst qi e_0.Servers∧Sep h' (geL h.length)
   ([])) hX29 ⟨f16,rfl,rfl,rfl,hS18⟩ (by simp only [B0,reduceIte,reduceEqDiff]) (by simp only [B0,reduceIte,
   reduceEqDiff]) (fun _ _ _ h=>h) rfl rfl (fun _ _ _ _ h=>h) (fun _ _ _ _ h=>h) (fun _ _ _ _ h=>h) (by decide) ?_ ?_
 ·rintro i25 x26 s24 fr39 h40 hx46 ⟨f42,f43,f44,f45,hS41⟩ f47 f48 oc28 hF31 hr32 Q33 hN34 hB38 hK35 hR36 hE37
  unfold qb0 at hF31
  simp only [q5a,qg,qf,f45,f47,jr,B0,reduceIte,reduceEqDiff]
  refine qh (v := .ref (qi x26) 0) (wc hx46 rfl) ?_
  simp only [qo,B0,reduceIte,reduceEqDiff]
  refine qh (v := .agg [.int .i64 x26.Term,.int .i64 x26.Voted,.bool x26.Stands,.bool x26.Leads,lst cI x26.Got,lst cI x26.Log]) rfl ?_
  simp only [jg,B0,reduceIte,reduceEqDiff]
  refine zw hS41 (fun b49 h50 hS51=>?_)
  simp only [zl,B0,reduceIte,reduceEqDiff]
  refine q9 (us:=[.int .i64 x26.Term,.int .i64 x26.Voted,.bool x26.Stands,.bool x26.Leads,lst cI x26.Got,lst cI x26.Log]) rfl (cs':=[.int .i64 x26.Term,
    .int .i64 x26.Voted,.bool x26.Stands,.bool x26.Leads,lst cI x26.Got,lst cI x26.Log]) hS51 hW rfl rfl (nle rfl) rfl (fun h53 hS54=>?_)
  simp only [qa,B0,reduceIte,reduceEqDiff]
  refine zy hS54 hW (by simp only [B0,reduceIte,reduceEqDiff]) (fun h55 hS56=>?_)
  obtain ⟨v57,hx58,hF59⟩:=qj hF31
  simp only [zv,q2l,qg,jv,f43,jf,qr,ua,B0,reduceIte,reduceEqDiff]
  refine qjm rfl (qm zm qz) (qbr (fun b hb=>decide_eq_true hb) x20.Log v57 hx58) ?_
  simp only [f43,qfb,qr,qk8,zx,qbn,Nat.reduceAdd,Nat.zero_add,Nat.add_zero,qu,ue,qcp,B0,reduceIte,reduceEqDiff]
  refine qw (v:=lst cI x26.Log) rfl ?_
  obtain ⟨v60,hx61,hF62⟩:=qj hF59
  simp only [yf,B0,reduceIte,reduceEqDiff]
  refine qdc rfl (qm zb (qm zb (qm zm qz))) (qfe (fun b hb=>decide_eq_true hb) v57 (List.length x20.Log:Int) x26.Log v60 hx61) ?_
  simp only [zn,q6l,ze,B0,reduceIte,reduceEqDiff]
  refine zf (t:=v60) (fun hc63=>?_) (fun hc63=>?_)
  ·rw [iteT hc63] at hF62
   simp only [qf,f44,qd,qx,qb,qam,qa,qn,B0,reduceIte,reduceEqDiff]
   have e64:=qk hF62
   exact hN34 _ _ _ e64.symm ⟨f42,f43,rfl,f45,hS56⟩ (f47) (f48)
  rw [iteF hc63] at hF62
  simp only [zi,qn,B0,reduceIte,reduceEqDiff]
  have e65:=qk hF62
  exact hN34 _ _ _ e65.symm ⟨f42,f43,f44,f45,hS56⟩ (f47) (f48)
 rintro s67 fr68 h69 rfl ⟨f71,f72,f73,f74,hS70⟩
 dsimp only [jnO] at hk30
 unfold qfh at hk30
 simp only [q4y,qg,qf,f73,qd,qx,qb,qmg,f71,qt,Nat.reduceAdd,Nat.zero_add,Nat.add_zero,qu,qo,B0,reduceIte,reduceEqDiff]
 refine qh (v:=lst qi e_0.Servers) rfl ?_
 simp only [zr,qb,zx,qx,xb,qd,qa,za,B0,reduceIte,reduceEqDiff]
 have he:=qk hk30
 subst he
 simp only [wj,B0,reduceIte,reduceEqDiff]
 exact uz (qm rfl (qm rfl qz))
theorem qki {W:Nat→Bool}{h:Heap}{lo:Nat→Prop}{S0:List Obj} (hW:∀ b,
  lo b→W b=true) (pb0:Nat) (c_0:L1Cur) (r:Int × L1Cur) (hF:qe5 c_0=some r) (hS:Sep h lo ([Blk1 pb0 [lst cU8 c_0.code,.int .i64 c_0.at_,
  .int .u64 c_0.seed] 87]++(S0))) : Ret E W 103 [.ptr pb0 0] h (fun v h'=>v = .int .i64 r.1∧Sep h' lo ([Blk1 pb0 [lst cU8 r.2.code,.int .i64 r.2.at_,
  .int .u64 r.2.seed] 87]++(S0))):=by
 refine Ret.of (fn:=qqq) rfl (Run.of ?_)
 unfold qe5 at hF
 have zf0:zh [.ptr pb0 0] 0 = .ptr pb0 0:=rfl
 generalize zh [.ptr pb0 0]=fr0 at zf0 ⊢
 simp only [qqq,qg,qf,qd,qa,qrw,quk,jv,zf0,jf,qr,ku,z9,jc,Nat.reduceAdd,Nat.zero_add,Nat.add_zero,
   q8,ja,B0,reduceIte,reduceEqDiff]
 refine qw (v := .int .i64 c_0.at_) ((jh (Sep.bk _ _ _ hS)).trans rfl) ?_
 simp only [zf0,jf,qr,ku,z9,jc,Nat.reduceAdd,Nat.zero_add,Nat.add_zero,q8,ja,B0,reduceIte,reduceEqDiff]
 refine qw (v:=lst cU8 c_0.code) ((jh (Sep.bk _ _ _ hS)).trans rfl) ?_
 simp only [qhl,qr,zx,uv,qdj,zn,quh,ze,B0,reduceIte,reduceEqDiff]
 obtain ⟨s1,hX3,hk4⟩:=qj hF
 refine uq (t:=(decide (c_0.at_<(List.length c_0.code:Int)))) (fun fr' h'=>fr' 0 = .ptr pb0 0∧fr' 3 = .int .i64 s1∧Sep h' lo ([Blk1 pb0 [lst cU8 c_0.code,
   .int .i64 c_0.at_,.int .u64 c_0.seed] 87]++(S0))) (fun Q5 hN6 hR7 hE8=>⟨fun hc9=>?_,fun hc9=>?_⟩) ?_
 ·rw [iteT hc9] at hX3
  simp only [qrl,jv,zf0,jf,qr,ku,z9,jc,Nat.reduceAdd,Nat.zero_add,Nat.add_zero,q8,ja,B0,reduceIte,reduceEqDiff]
  refine qw (v:=lst cU8 c_0.code) ((jh (Sep.bk _ _ _ hS)).trans rfl) ?_
  simp only [zf0,jf,qr,ku,z9,jc,Nat.reduceAdd,Nat.zero_add,Nat.add_zero,q8,ja,B0,reduceIte,reduceEqDiff]
  refine qw (v := .int .i64 c_0.at_) ((jh (Sep.bk _ _ _ hS)).trans rfl) ?_
  obtain ⟨x10,hx11,hF12⟩:=qj hX3
  simp only [qee,B0,reduceIte,reduceEqDiff]
  refine qw (v := .ref (cU8 x10) 0) (yl hx11 rfl) ?_
  simp only [ja,B0,reduceIte,reduceEqDiff]
  refine qw (v := .int .u8 x10) rfl ?_
  simp only [q98,qr,qkz,jf,zn,qn,B0,reduceIte,reduceEqDiff]
  have e13:=qk hF12
  subst e13
  exact hN6 _ _ ⟨zf0,rfl,hS⟩
 ·rw [iteF hc9] at hX3
  simp only [zi,qn,B0,reduceIte,reduceEqDiff]
  have e14:=qk hX3
  subst e14
  exact hN6 _ _ ⟨zf0,rfl,hS⟩
 rintro fr15 h16 ⟨f18,f19,hS17⟩
 unfold qe9 at hk4
 simp only [qwu,qg,qf,f18,qd,wx,qb,z9,qt,Nat.reduceAdd,Nat.zero_add,Nat.add_zero,q8,qo,B0,reduceIte,reduceEqDiff]
 refine qh (v := .int .i64 c_0.at_) ((jh (Sep.bk _ _ _ hS17)).trans rfl) ?_
 simp only [qx,qb,qam,wx,z9,qt,Nat.reduceAdd,Nat.zero_add,Nat.add_zero,q8,zl,B0,reduceIte,reduceEqDiff]
 refine q9 (us:=[.int .i64 (IntKind.wrap .i64 (c_0.at_+1))]) rfl (cs':=[lst cU8 c_0.code,.int .i64 (IntKind.wrap .i64 (c_0.at_+1)),
   .int .u64 c_0.seed]) hS17 hW rfl rfl (nle rfl) rfl (fun h20 hS21=>?_)
 simp only [qa,qx3,qg,qf,f18,qd,wx,qb,z9,qt,Nat.reduceAdd,Nat.zero_add,Nat.add_zero,q8,qo,B0,reduceIte,
   reduceEqDiff]
 refine qh (v := .int .u64 c_0.seed) ((jh (Sep.bk _ _ _ hS21)).trans rfl) ?_
 simp only [qx,qb,qmg,f19,qd,qml,qkz,qam,wx,z9,qt,Nat.reduceAdd,Nat.zero_add,Nat.add_zero,q8,zl,B0,reduceIte,
   reduceEqDiff]
 refine q9 (us:=[.int .u64 (IntKind.wrap .u64 ((IntKind.wrap .u64 ((IntKind.wrap .u64 (c_0.seed*6364136223846793005)) +
   (IntKind.wrap .u64 s1)))+1442695040888963407))]) rfl (cs':=[lst cU8 c_0.code,.int .i64 (IntKind.wrap .i64 (c_0.at_+1)),
   .int .u64 (IntKind.wrap .u64 ((IntKind.wrap .u64 ((IntKind.wrap .u64 (c_0.seed*6364136223846793005))+(IntKind.wrap .u64 s1)))+1442695040888963407))]) hS21 hW rfl rfl
   (nle rfl) rfl (fun h22 hS23=>?_)
 simp only [qa,qx0,qg,jv,f18,jf,qr,ku,z9,jc,Nat.reduceAdd,Nat.zero_add,Nat.add_zero,q8,ja,B0,reduceIte,
   reduceEqDiff]
 refine qw (v := .int .i64 (IntKind.wrap .i64 (c_0.at_+1))) ((jh (Sep.bk _ _ _ hS23)).trans rfl) ?_
 simp only [f18,jf,qr,ku,z9,jc,Nat.reduceAdd,Nat.zero_add,Nat.add_zero,q8,ja,B0,reduceIte,reduceEqDiff]
 refine qw (v:=lst cU8 c_0.code) ((jh (Sep.bk _ _ _ hS23)).trans rfl) ?_
 simp only [qhl,qr,zx,uv,qju,zn,quf,ze,B0,reduceIte,reduceEqDiff]
 refine zf (t:=(decide ((IntKind.wrap .i64 (c_0.at_+1))≤(List.length c_0.code:Int)))) (fun hc24=>?_) (fun hc24=>?_)
 ·rw [iteT hc24] at hk4
  simp only [qg,qf,f19,qd,qa,za,B0,reduceIte,reduceEqDiff]
  have he:=qk hk4
  subst he
  simp only [zp,B0,reduceIte,reduceEqDiff]
  exact ⟨by first | trivial | rfl,hS23⟩
 rw [iteF hc24] at hk4
 simp only [zi,qu9,qg,qf,f18,qd,wx,qb,z9,qt,Nat.reduceAdd,Nat.zero_add,Nat.add_zero,q8,qo,B0,reduceIte,
   reduceEqDiff]
 refine qh (v := .int .u64 (IntKind.wrap .u64 ((IntKind.wrap .u64 ((IntKind.wrap .u64 (c_0.seed*6364136223846793005))+(IntKind.wrap .u64 s1)))+1442695040888963407)))
   ((jh (Sep.bk _ _ _ hS23)).trans rfl) ?_
 simp only [qx,qb,qpm (n:=40) (by decide),q81,qml,qkz,qd,qa,za,B0,reduceIte,reduceEqDiff]
 have he:=qk hk4
 subst he
 simp only [zp,B0,reduceIte,reduceEqDiff]
 exact ⟨by first | trivial | rfl,hS23⟩
theorem kw {W:Nat→Bool}{h:Heap}{lo:Nat→Prop}{S0:List Obj} (hW:∀ b,
  lo b→W b=true) (pb0:Nat) (c_0:L1Cur) (n_1:Int) (r:Int × L1Cur) (hF:kx c_0 n_1=some r) (hS:Sep h lo ([Blk1 pb0 [lst cU8 c_0.code,.int .i64 c_0.at_,
  .int .u64 c_0.seed] 87]++(S0))) : Ret E W 64 [.ptr pb0 0,.int .i64 n_1] h (fun v h'=>v = .int .i64 r.1∧Sep h' lo ([Blk1 pb0 [lst cU8 r.2.code,.int .i64 r.2.at_,
  .int .u64 r.2.seed] 87]++(S0))):=by
 refine Ret.of (fn:=x64) rfl (Run.of ?_)
 unfold kx at hF
 have zf0:zh [.ptr pb0 0,.int .i64 n_1] 0 = .ptr pb0 0:=rfl
 have zf1:zh [.ptr pb0 0,.int .i64 n_1] 1 = .int .i64 n_1:=rfl
 generalize zh [.ptr pb0 0,.int .i64 n_1]=fr0 at zf0 zf1 ⊢
 simp only [x64,qg,qf,qd,qa,q18,zf1,qx,qb,qju,ze,B0,reduceIte,reduceEqDiff]
 refine zf (t:=(decide (n_1≤1))) (fun hc1=>?_) (fun hc1=>?_)
 ·rw [iteT hc1] at hF
  simp only [qg,qf,qd,qa,za,B0,reduceIte,reduceEqDiff]
  have he:=qk hF
  subst he
  simp only [zp,B0,reduceIte,reduceEqDiff]
  exact ⟨by first | trivial | rfl,hS⟩
 rw [iteF hc1] at hF
 obtain ⟨v2,hx3,hF4⟩:=qj hF
 simp only [zi,q4f,qg,qf,zf0,qd,qv,B0,reduceIte,reduceEqDiff]
 refine kg rfl (qki hW pb0 c_0 v2 hx3 hS) ?_
 rintro _ h5 ⟨rfl,hS6⟩
 simp only [qd,qa,q6s,qg,qf,zf1,qx,qb,xb,q7k,ze,B0,reduceIte,reduceEqDiff]
 refine zf (t:=(decide ((200:Int)<n_1))) (fun hc7=>?_) (fun hc7=>?_)
 ·rw [iteT hc7] at hF4
  obtain ⟨v8,hx9,hF10⟩:=qj hF4
  simp only [q14,qf,qd,qx,qb,qmg,zf0,qv,B0,reduceIte,reduceEqDiff]
  refine kg rfl (qki hW pb0 v2.2 v8 hx9 hS6) ?_
  rintro _ h11 ⟨rfl,hS12⟩
  obtain ⟨hp13,hF14⟩:=qp9 hF10
  simp only [qx,qb,qam,qd,qa,qre,qg,qf,zf1,qpx (n:=n_1) hp13,za,B0,reduceIte,reduceEqDiff]
  have he:=qk hF14
  subst he
  simp only [zp,B0,reduceIte,reduceEqDiff]
  exact ⟨by first | trivial | rfl,hS12⟩
 rw [iteF hc7] at hF4
 obtain ⟨hp15,hF16⟩:=qp9 hF4
 simp only [zi,qre,qg,qf,qd,zf1,qx,qb,qpx (n:=n_1) hp15,qa,za,B0,reduceIte,reduceEqDiff]
 have he:=qk hF16
 subst he
 simp only [zp,B0,reduceIte,reduceEqDiff]
 exact ⟨by first | trivial | rfl,hS6⟩
theorem qeg {W:Nat→Bool}{h:Heap}{lo:Nat→Prop}{S0:List Obj} (hW:∀ b,
  lo b→W b=true) (pb0:Nat) (c_0:L1Cur) (n_1:Int) (r:Bool × L1Cur) (hF:qcf c_0 n_1=some r) (hS:Sep h lo ([Blk1 pb0 [lst cU8 c_0.code,.int .i64 c_0.at_,
  .int .u64 c_0.seed] 87]++(S0))) : Ret E W 91 [.ptr pb0 0,.int .i64 n_1] h (fun v h'=>v = .bool r.1∧Sep h' lo ([Blk1 pb0 [lst cU8 r.2.code,.int .i64 r.2.at_,
  .int .u64 r.2.seed] 87]++(S0))):=by
 refine Ret.of (fn:=x91) rfl (Run.of ?_)
 unfold qcf at hF
 have zf0:zh [.ptr pb0 0,.int .i64 n_1] 0 = .ptr pb0 0:=rfl
 have zf1:zh [.ptr pb0 0,.int .i64 n_1] 1 = .int .i64 n_1:=rfl
 generalize zh [.ptr pb0 0,.int .i64 n_1]=fr0 at zf0 zf1 ⊢
 obtain ⟨v1,hx2,hF3⟩:=qj hF
 simp only [x91,qg,qf,qd,qa,q21,zf0,zf1,qv,B0,reduceIte,reduceEqDiff]
 refine kg rfl (kw hW pb0 c_0 n_1 v1 hx2 hS) ?_
 rintro _ h4 ⟨rfl,hS5⟩
 simp only [qx,qb,yh,qd,qa,za,B0,reduceIte,reduceEqDiff]
 have he:=qk hF3
 subst he
 simp only [zp,B0,reduceIte,reduceEqDiff]
 exact ⟨by first | trivial | rfl,hS5⟩
theorem qfi {W:Nat→Bool}{h:Heap}{lo:Nat→Prop}{S0:List Obj} (hW:∀ b,
  lo b→W b=true) (pb0:Nat) (c_0:L1Cur) (pv1:XV) (pc1:List Obj) (list_1:List Int) (ph1:SlF cI 1 3 pv1 list_1 pc1) (r:Int × L1Cur × (List Int))
  (hF:qb2 c_0 list_1=some r) (hS:Sep h lo ([Blk1 pb0 [lst cU8 c_0.code,.int .i64 c_0.at_,.int .u64 c_0.seed] 87]++(pc1++(S0)))) : Ret E W 92 [.ptr pb0 0,
  pv1] h (fun v h'=>∃ ic1,v = .int .i64 r.1∧SlF cI 1 3 pv1 r.2.2 ic1∧Sep h' lo ([Blk1 pb0 [lst cU8 r.2.1.code,.int .i64 r.2.1.at_,
  .int .u64 r.2.1.seed] 87]++(ic1++(S0)))):=by
 refine Ret.of (fn:=x92) rfl (Run.of ?_)
 unfold qb2 at hF
 have zf0:zh [.ptr pb0 0,pv1] 0 = .ptr pb0 0:=rfl
 have zf1:zh [.ptr pb0 0,pv1] 1=pv1:=rfl
 generalize zh [.ptr pb0 0,pv1]=fr0 at zf0 zf1 ⊢
 obtain ⟨v1,hx2,hF3⟩:=qj hF
 simp only [x92,qg,qf,qd,qa,q15,zf1,zf0,zr,qb,SlF.plen ph1,qv,B0,reduceIte,reduceEqDiff]
 refine kg rfl (kw hW pb0 c_0 (List.length list_1:Int) v1 hx2 hS) ?_
 rintro _ h4 ⟨rfl,hS5⟩
 obtain ⟨x6,hx7,hF8⟩:=qj hF3
 simp only [jr,B0,reduceIte,reduceEqDiff]
 obtain ⟨b9,hb10⟩:=SlF.isrow ph1 (wg hx7)
 refine qh (SlF.ia ph1 hb10 hx7) ?_
 simp only [qo,B0,reduceIte,reduceEqDiff]
 refine qh (v := .int .i64 x6) ((SlF.ld (o:=0) ph1 (Sep.m1 hS5) hb10 hx7 (fun _=>rfl) (nle rfl)).trans rfl) ?_
 simp only [qd,qa,za,B0,reduceIte,reduceEqDiff]
 have he:=qk hF8
 subst he
 simp only [zp,B0,reduceIte,reduceEqDiff]
 exact ⟨pc1,by first | trivial | rfl,ph1,(Sep.m1 (Sep.m1 hS5))⟩
theorem qgx {W:Nat→Bool}{h:Heap}{lo:Nat→Prop}{S0:List Obj} (hW:∀ b,
  lo b→W b=true) (k:Nat) (pb0:Nat) (c_0:L1Cur) (r:(List ElectStep) × L1Cur) (hF:qag k c_0=some r) (hS:Sep h lo ([Blk1 pb0 [lst cU8 c_0.code,
  .int .i64 c_0.at_,.int .u64 c_0.seed] 87]++(S0))) : Ret E W 48 [.ptr pb0 0] h (fun v h'=>∃ rv0 rc0,
  v=rv0∧SlF kj 2 49 rv0 r.1 rc0∧Sep h' lo (rc0++([Blk1 pb0 [lst cU8 r.2.code,.int .i64 r.2.at_,.int .u64 r.2.seed] 87]++(S0)))):=by
 refine Ret.of (fn:=x48) rfl (Run.of ?_)
 unfold qag at hF
 have zf0:zh [.ptr pb0 0] 0 = .ptr pb0 0:=rfl
 generalize zh [.ptr pb0 0]=fr0 at zf0 ⊢
 obtain ⟨v1,hx2,hF3⟩:=qj hF
 simp only [x48,qg,qf,qd,qa,qtt,qvp,zf0,qv,B0,reduceIte,reduceEqDiff]
 refine kg rfl (kw hW pb0 c_0 30 v1 hx2 hS) ?_
 rintro _ h4 ⟨rfl,hS5⟩
 obtain ⟨v6,hx7,hF8⟩:=qj hF3
 simp only [qd,qa,qtj,qg,qf,zf0,qv,B0,reduceIte,reduceEqDiff]
 refine kg rfl (qeg hW pb0 v1.2 12 v6 hx7 hS5) ?_
 rintro _ h9 ⟨rfl,hS10⟩
 simp only [qa,q0v,ze,B0,reduceIte,reduceEqDiff]
 obtain ⟨sv16,hX14,hk15⟩:=qj hF8
 refine uq (t:=v6.1) (fun fr' h'=>fr' 0 = .ptr pb0 0∧fr' 3 = .nil∧fr' 4 = .int .i64 sv16.1∧Sep h' lo ([Blk1 pb0 [lst cU8 sv16.2.code,.int .i64 sv16.2.at_,
   .int .u64 sv16.2.seed] 87]++(S0))) (fun Q17 hN18 hR19 hE20=>⟨fun hc21=>?_,fun hc21=>?_⟩) ?_
 ·rw [iteT hc21] at hX14
  obtain ⟨v22,hx23,hF24⟩:=qj hX14
  simp only [q7j,qf,zf0,qd,qv,B0,reduceIte,reduceEqDiff]
  refine kg rfl (kw hW pb0 v6.2 12 v22 hx23 hS10) ?_
  rintro _ h25 ⟨rfl,hS26⟩
  simp only [qx,qb,qam,qd,qa,qn,B0,reduceIte,reduceEqDiff]
  have e27:=qk hF24
  subst e27
  exact hN18 _ _ ⟨zf0,rfl,rfl,hS26⟩
 ·rw [iteF hc21] at hX14
  simp only [zi,qn,B0,reduceIte,reduceEqDiff]
  have e28:=qk hX14
  subst e28
  exact hN18 _ _ ⟨zf0,rfl,rfl,hS10⟩
 rintro fr29 h30 ⟨f32,f33,f34,hS31⟩
 obtain ⟨s11,s12⟩:=sv16
 dsimp only at *
 unfold qby at hk15
 simp only [qrt,qg,B0,reduceIte,reduceEqDiff]
 obtain ⟨oc51,hX53,hk54⟩:=kn hk15
 simp only [qs7]
 refine qg4 (σ:=(List ElectStep) × Int × L1Cur) (fun s150=>wo s150.1 s150.2.1 s150.2.2) (fun s fr' h'=>∃ v44 c45,
   fr' 0 = .ptr pb0 0∧fr' 3=v44∧fr' 4 = .int .i64 s.2.1∧SlF kj 2 49 v44 s.1 c45∧Sep h' lo ([Blk1 pb0 [lst cU8 s.2.2.code,.int .i64 s.2.2.at_,
   .int .u64 s.2.2.seed] 87]++(c45++(S0)))) hX53 ⟨.nil,[],f32,f33,f34,SlF.nil,(hS31:Sep _ lo ([Blk1 pb0 [lst cU8 s12.code,.int .i64 s12.at_,
   .int .u64 s12.seed] 87]++(S0)))⟩ (fun _ _ _ h=>h) ?_ ?_
 ·rintro ⟨s42,s47,s48⟩ fr63 h64 ⟨v44,c45,f66,f67,f68,hv46,hS65⟩ oc52 hF55 hr56 Q57 hN58 hK59 hR60 hE61
  dsimp only at *
  unfold wo at hF55
  simp only [q5s,qg,qf,f68,qd,qx,qb,xb,qa,ze,B0,reduceIte,reduceEqDiff]
  refine zf (t:=(decide ((0:Int)<s47))) (fun hc70=>?_) (fun hc70=>?_)
  ·rw [iteT hc70] at hF55
   simp only [zi,q6c,qg,qaa,q1c,qf,f66,qd,j8,evp,B0,reduceIte,reduceEqDiff]
   refine jy (n:=1) (f:=cI) [1,2,2,2,2,2,3,4] hS65 rfl rfl (fun v71 c72 h73 hv74 hS75=>?_)
   obtain ⟨v77,hx78,hF79⟩:=qj hF55
   simp only [qv,B0,reduceIte,reduceEqDiff]
   refine kg rfl (qfi hW pb0 s48 v71 c72 [1,2,2,2,2,2,3,4] hv74 v77 hx78 (Sep.m1 hS75)) ?_
   rintro _ h82 ⟨c80,rfl,hv81,hS83⟩
   obtain ⟨v84,hx85,hF86⟩:=qj hF79
   simp only [f66,qd,qv,B0,reduceIte,reduceEqDiff]
   refine kg rfl (kw hW pb0 v77.2.1 5 v84 hx85 hS83) ?_
   rintro _ h87 ⟨rfl,hS88⟩
   simp only [run_build,evp,B0,reduceIte,reduceEqDiff]
   refine qh (v := .agg [.int .i64 v77.1,.int .i64 v84.1]) rfl ?_
   simp only [jg,B0,reduceIte,reduceEqDiff]
   refine zw hS88 (fun b89 h90 hS91=>?_)
   simp only [zl,B0,reduceIte,reduceEqDiff]
   refine q9 (us:=[.int .i64 v77.1,.int .i64 v84.1]) rfl (cs':=[.int .i64 v77.1,.int .i64 v84.1]) hS91 hW rfl rfl (nle rfl) rfl (fun h93 hS94=>?_)
   obtain ⟨v95,hx96,hF97⟩:=qj hF86
   simp only [qa,q69,qg,qf,f66,qd,qv,B0,reduceIte,reduceEqDiff]
   refine kg rfl (qeg hW pb0 v84.2 30 v95 hx96 (Sep.m1 hS94)) ?_
   rintro _ h98 ⟨rfl,hS99⟩
   simp only [qa,q4o,ze,B0,reduceIte,reduceEqDiff]
   obtain ⟨sv105,hX103,hk104⟩:=qj hF97
   refine uq (t:=v95.1) (fun fr' h'=>fr' 0 = .ptr pb0 0∧fr' 3=v44∧fr' 4 = .int .i64 s47∧fr' 5 = .ptr b89 0∧Sep h' lo ([Blk1 pb0 [lst cU8 sv105.1.code,
     .int .i64 sv105.1.at_,.int .u64 sv105.1.seed] 87]++(c45++([Blk1 b89 [.int .i64 sv105.2.Term,
     .int .i64 sv105.2.Leader] 49]++(S0))))) (fun Q106 hN107 hR108 hE109=>⟨fun hc110=>?_,fun hc110=>?_⟩) ?_
   ·rw [iteT hc110] at hX103
    obtain ⟨v111,hx112,hF113⟩:=qj hX103
    simp only [q5f,qf,f66,qd,qv,B0,reduceIte,reduceEqDiff]
    refine kg rfl (kw hW pb0 v95.2 7 v111 hx112 hS99) ?_
    rintro _ h114 ⟨rfl,hS115⟩
    obtain ⟨v116,hx117,hF118⟩:=qj hF113
    simp only [f66,qd,qv,B0,reduceIte,reduceEqDiff]
    refine kg rfl (kw hW pb0 v111.2 8 v116 hx117 hS115) ?_
    rintro _ h119 ⟨rfl,hS120⟩
    simp only [qx,qb,qbd,run_build,evp,B0,reduceIte,reduceEqDiff]
    refine qh (v := .agg [.int .i64 v111.1,.int .i64 (IntKind.wrap .i64 (v116.1 - 1))]) rfl ?_
    simp only [zl,B0,reduceIte,reduceEqDiff]
    refine q9 (us:=[.int .i64 v111.1,.int .i64 (IntKind.wrap .i64 (v116.1 - 1))]) rfl (cs':=[.int .i64 v111.1,
      .int .i64 (IntKind.wrap .i64 (v116.1 - 1))]) (Sep.m1 hS120) hW rfl rfl (nle rfl) rfl (fun h121 hS122=>?_)
    simp only [qa,qn,B0,reduceIte,reduceEqDiff]
    have e123:=qk hF118
    subst e123
    exact hN107 _ _ ⟨f66,f67,f68,rfl,(Sep.m2 (Sep.m2 (Sep.dc (Sep.m2 hS122))))⟩
   ·rw [iteF hc110] at hX103
    simp only [zi,qn,B0,reduceIte,reduceEqDiff]
    have e124:=qk hX103
    subst e124
    exact hN107 _ _ ⟨f66,f67,f68,rfl,(Sep.m2 (Sep.m2 (Sep.m1 (Sep.dc (Sep.m2 hS99)))))⟩
   rintro fr125 h126 ⟨f128,f129,f130,f131,hS127⟩
   obtain ⟨s100,s101⟩:=sv105
   dsimp only at *
   unfold qb4 at hk104
   simp only [q5e,qf,f129,qd,f131,qo,B0,reduceIte,reduceEqDiff]
   refine qh (v := .agg [.int .i64 s101.Term,.int .i64 s101.Leader]) ((zz (Sep.bk _ _ _ (Sep.m2 hS127))).trans rfl) ?_
   simp only [j8,evp,B0,reduceIte,reduceEqDiff]
   refine jy (n:=2) (f:=kj) [s101] hS127 rfl rfl (fun v132 c133 h134 hv135 hS136=>?_)
   simp only [wu,B0,reduceIte,reduceEqDiff]
   obtain ⟨l138,hx139,hF140⟩:=qj hk104
   refine yx (f:=kj) hv46 (Sep.m2 hS136) hW (fun _=>rfl) (fun _=>rfl) (SlF.first hv135 hS136 (fun _=>rfl)) hx139
     (fun v141 c142 h143 hv144 hS145=>?_)
   simp only [qd,qa,um,qf,f130,qx,qb,qbd,qn,B0,reduceIte,reduceEqDiff]
   have e147:=qk hF140
   exact hN58 _ _ _ e147.symm ⟨v141,c142,f128,rfl,rfl,hv144,(Sep.m1 (Sep.dc (Sep.m2 (Sep.dc (Sep.m1 hS145)))))⟩
  rw [iteF hc70] at hF55
  simp only [qdz,qc9,qe4,B0,reduceIte,reduceEqDiff]
  have e149:=qk hF55
  exact hK59 _ _ _ e149.symm ⟨v44,c45,f66,f67,f68,hv46,(Sep.m1 (Sep.m1 hS65))⟩
 rintro ⟨s151,s156,s157⟩ fr158 h159 rfl ⟨v153,c154,f161,f162,f163,hv155,hS160⟩
 dsimp only [jnO] at hk54
 dsimp only at *
 unfold qgn at hk54
 simp only [qg,qf,f162,qd,qa,za,B0,reduceIte,reduceEqDiff]
 have he:=qk hk54
 subst he
 simp only [zp,B0,reduceIte,reduceEqDiff]
 exact ⟨v153,c154,by first | trivial | rfl,hv155,(Sep.m1 hS160)⟩
theorem u7 {W:Nat→Bool}{h:Heap} (hW:∀ b,
  (geL h.length) b→W b=true) (n_0:Int) (lo_1:Int) (hi_2:Int) (r:Bool) (hF:some (jd n_0 lo_1 hi_2)=some r) : Ret E W 62 [.int .i64 n_0,.int .i64 lo_1,
  .int .i64 hi_2] h (fun v h'=>cut h.length h' E.sz false 9 v=some (.bool r)):=by
 refine Ret.of (fn:=x62) rfl (Run.of ?_)
 unfold jd at hF
 have zf0:zh [.int .i64 n_0,.int .i64 lo_1,.int .i64 hi_2] 0 = .int .i64 n_0:=rfl
 have zf1:zh [.int .i64 n_0,.int .i64 lo_1,.int .i64 hi_2] 1 = .int .i64 lo_1:=rfl
 have zf2:zh [.int .i64 n_0,.int .i64 lo_1,.int .i64 hi_2] 2 = .int .i64 hi_2:=rfl
 generalize zh [.int .i64 n_0,.int .i64 lo_1,.int .i64 hi_2]=fr0 at zf0 zf1 zf2 ⊢
 have hS:Sep h (geL h.length) []:=Sep.nil h
 simp only [x62,qg,qf,qd,qa,q0n,zf0,zf1,qx,qb,qh4,B0,reduceIte,reduceEqDiff]
 refine z7 4 (fun fr' h'=>Sep h' (geL h.length) ([])∧fr' 14 = .bool ((decide (lo_1≤n_0))&&(decide (n_0≤hi_2)))) (fun Q1 hN2=>?_) ?_
 ·simp only [List.take_succ_cons,List.take_zero]
  simp only [qc (g:=10),B0,reduceIte,reduceEqDiff]
  refine qy (t:=(decide (lo_1≤n_0))) (fun hg3=>?_) (fun hg3=>?_)
  ·simp only [hg3,qc (g:=10),zg,zf0,qd,zf2,qx,qb,qju,qs,zj,qa,qn,B0,reduceIte,reduceEqDiff]
   exact hN2 _ _ ⟨hS,by rw [xl hg3]; simp only [B0,reduceIte,reduceEqDiff]⟩
  ·simp only [hg3,qc (g:=10),jl,qs,qb,zk,qa,qn,B0,reduceIte,reduceEqDiff]
   exact hN2 _ _ ⟨hS,by rw [xm hg3]; simp only [B0,reduceIte,reduceEqDiff]⟩
 rintro fr4 h6 ⟨hS7,f5⟩
 simp only [List.drop_succ_cons,List.drop_zero]
 simp only [f5,qd,qa,za,B0,reduceIte,reduceEqDiff]
 have he:=qk hF
 subst he
 simp only [zp,B0,reduceIte,reduceEqDiff]
 exact rfl
theorem qaq {W:Nat→Bool}{h:Heap} (hW:∀ b,
  (geL h.length) b→W b=true) (l_0:List Int) (r:Int) (hF:wt l_0=some r) : Ret E W 66 [lst cI l_0] h (fun v h'=>cut h.length h' E.sz false 9 v=some
  (.int .i64 r)):=by
 refine Ret.of (fn:=x66) rfl (Run.of ?_)
 unfold wt at hF
 have zf0:zh [lst cI l_0] 0=lst cI l_0:=rfl
 generalize zh [lst cI l_0]=fr0 at zf0 ⊢
 have hS:Sep h (geL h.length) []:=Sep.nil h
 simp only [x66,qg,qf,qd,qa,q6m,zf0,zr,qb,zx,qx,yh,ze,B0,reduceIte,reduceEqDiff]
 refine zf (t:=(decide ((List.length l_0:Int)=0))) (fun hc1=>?_) (fun hc1=>?_)
 ·rw [iteT hc1] at hF
  simp only [qg,qf,qd,qa,za,B0,reduceIte,reduceEqDiff]
  have he:=qk hF
  subst he
  simp only [zp,B0,reduceIte,reduceEqDiff]
  exact rfl
 rw [iteF hc1] at hF
 obtain ⟨x2,hx3,hF4⟩:=qj hF
 simp only [zi,q5k,qg,qf,zf0,qd,zr,qb,zx,qx,qbd,jr,B0,reduceIte,reduceEqDiff]
 refine qh (v := .ref (cI x2) 0) (yl hx3 rfl) ?_
 simp only [qo,B0,reduceIte,reduceEqDiff]
 refine qh (v := .int .i64 x2) rfl ?_
 simp only [qd,qa,za,B0,reduceIte,reduceEqDiff]
 have he:=qk hF4
 subst he
 simp only [zp,B0,reduceIte,reduceEqDiff]
 exact rfl
theorem xn {W:Nat→Bool}{h:Heap} (hW:∀ b,
  (geL h.length) b→W b=true) (l_0:List Int) (r:Bool) (hF:ye l_0=some r) : Ret E W 69 [lst cI l_0] h (fun v h'=>cut h.length h' E.sz false 9 v=some
  (.bool r)):=by
 refine Ret.of (fn:=x69) rfl (Run.of ?_)
 unfold ye at hF
 have zf0:zh [lst cI l_0] 0=lst cI l_0:=rfl
 generalize zh [lst cI l_0]=fr0 at zf0 ⊢
 have hS:Sep h (geL h.length) []:=Sep.nil h
 simp only [x69,qg,qf,qd,qa,qzx,zf0,zr,qb,zx,B0,reduceIte,reduceEqDiff]
 obtain ⟨oc3,hX5,hk6⟩:=kn hF
 simp only [q5u]
 refine wb (σ:=Unit) l_0 (fun i1 x2 _=>qbp l_0 i1 x2 ) (fun s fr' h'=>fr' 0=lst cI l_0∧fr' 5=lst cI l_0∧Sep h' (geL h.length) ([])) hX5 ⟨zf0,
   rfl,hS⟩ (by simp only [B0,reduceIte,reduceEqDiff]) (by simp only [B0,reduceIte,
   reduceEqDiff]) (fun _ _ _ h=>h) rfl rfl (fun _ _ _ _ h=>h) (fun _ _ _ _ h=>h) (fun _ _ _ _ h=>h) (by decide) ?_ ?_
 ·rintro i1 x2 _ fr15 h16 hx20 ⟨f18,f19,hS17⟩ f21 f22 oc4 hF7 hr8 Q9 hN10 hB14 hK11 hR12 hE13
  unfold qbp at hF7
  simp only [q1k,qg,qf,f21,qd,f19,jr,B0,reduceIte,reduceEqDiff]
  refine qh (v := .ref (cI x2) 0) (wc hx20 rfl) ?_
  simp only [qo,B0,reduceIte,reduceEqDiff]
  refine qh (v := .int .i64 x2) rfl ?_
  simp only [qd,qa,q5c,qg,qf,qv,B0,reduceIte,reduceEqDiff]
  refine je rfl (qm zb (qm zb (qm zb qz))) (u7 (fun b hb=>decide_eq_true hb) x2 0 100 _ rfl) ?_
  simp only [jj,qb,j9,qd,B0,reduceIte,reduceEqDiff]
  obtain ⟨v26,hx27,hF28⟩:=qj hF7
  refine z7 12 (fun fr' h'=>Sep h' (geL h.length) ([])∧fr' 27 = .bool v26∧fr' 0=lst cI l_0∧fr' 5=lst cI l_0∧fr' 6 = .int .i64
    (List.length l_0:Int)∧fr' 7 = .int .i64 (i1:Int)) (fun Q23 hN24=>?_) ?_
  ·simp only [List.take_succ_cons,List.take_zero]
   simp only [qc (g:=15),B0,reduceIte,reduceEqDiff]
   refine qy (t:=(!(jd x2 0 100))) (fun hg25=>?_) (fun hg25=>?_)
   ·rw [iteT hg25] at hx27
    simp only [hg25,qc (g:=15),zq,qc (g:=18),ym,qs,qb,zj,qa,qn,B0,reduceIte,reduceEqDiff]
    have e29:=qk hx27
    exact hN24 _ _ ⟨hS17,by rw [←e29]; simp only [B0,reduceIte,reduceEqDiff],f18,f19,f22,f21⟩
   ·rw [iteF hg25] at hx27
    simp only [hg25,qc (g:=15),qp,qd,qx,qb,xb,B0,reduceIte,reduceEqDiff]
    obtain ⟨v33,hx34,hF35⟩:=qj hx27
    refine z7 8 (fun fr' h'=>Sep h' (geL h.length) ([])∧fr' 26 = .bool v33∧fr' 0=lst cI l_0∧fr' 5=lst cI l_0∧fr' 6 = .int .i64
      (List.length l_0:Int)∧fr' 7 = .int .i64 (i1:Int)∧fr' 15 = .bool (!(jd x2 0 100))) (fun Q30 hN31=>?_) ?_
    ·simp only [List.take_succ_cons,List.take_zero]
     simp only [qc (g:=18),B0,reduceIte,reduceEqDiff]
     refine qy (t:=(decide ((0:Int)<(i1:Int)))) (fun hg32=>?_) (fun hg32=>?_)
     ·rw [iteT hg32] at hx34
      obtain ⟨x36,hx37,hF38⟩:=qj hx34
      simp only [hg32,qc (g:=18),zg,f18,qd,qx,qb,qbd,jr,B0,reduceIte,reduceEqDiff]
      refine qh (v := .ref (cI x36) 0) (yl hx37 rfl) ?_
      simp only [hg32,qc (g:=18),zg,qo,B0,reduceIte,reduceEqDiff]
      refine qh (v := .int .i64 x36) rfl ?_
      simp only [hg32,qc (g:=18),zg,qd,qx,qb,xb,hg25,qc (g:=15),qp,qs,zj,qa,qn,
        B0,reduceIte,reduceEqDiff]
      have e39:=qk hF38
      exact hN31 _ _ ⟨hS17,by rw [←e39]; simp only [B0,reduceIte,reduceEqDiff],f18,f19,f22,f21,by simp only [hg25,B0,reduceIte,reduceEqDiff]⟩
     ·rw [iteF hg32] at hx34
      simp only [hg32,qc (g:=18),jl,hg25,qc (g:=15),qp,qs,qb,zk,qa,qn,B0,reduceIte,
        reduceEqDiff]
      have e40:=qk hx34
      exact hN31 _ _ ⟨hS17,by rw [←e40]; simp only [B0,reduceIte,reduceEqDiff],f18,f19,f22,f21,by simp only [hg25,B0,reduceIte,reduceEqDiff]⟩
    rintro fr41 h48 ⟨hS49,f42,f43,f44,f45,f46,f47⟩
    simp only [List.drop_succ_cons,List.drop_zero]
    simp only [f47,hg25,qs,qb,zk,f42,qa,qn,B0,reduceIte,reduceEqDiff]
    have e50:=qk hF35
    exact hN24 _ _ ⟨hS49,by rw [←e50]; simp only [B0,reduceIte,reduceEqDiff],f43,f44,f45,f46⟩
  rintro fr51 h57 ⟨hS58,f52,f53,f54,f55,f56⟩
  simp only [List.drop_succ_cons,List.drop_zero]
  simp only [qa,f52,ze,B0,reduceIte,reduceEqDiff]
  refine zf (t:=v26) (fun hc59=>?_) (fun hc59=>?_)
  ·rw [iteT hc59] at hF28
   simp only [qg,qf,qd,qa,za,B0,reduceIte,reduceEqDiff]
   have e60:=qk hF28
   subst e60
   have ho61:=hr8 _ rfl
   have hk62:=hk6
   rw [ho61] at hk62
   dsimp only [jnO] at hk62
   apply hR12
   have he:=qk hk62
   subst he
   simp only [zp,B0,reduceIte,reduceEqDiff]
   exact rfl
  rw [iteF hc59] at hF28
  simp only [zi,qn,B0,reduceIte,reduceEqDiff]
  have e63:=qk hF28
  exact hN10 _ _ _ e63.symm ⟨f53,f54,hS58⟩ (f56) (f55)
 rintro _ fr65 h66 rfl ⟨f68,f69,hS67⟩
 dsimp only [jnO] at hk6
 unfold qfz at hk6
 simp only [q3x,qg,qf,f68,qd,zr,qb,zx,qx,qju,qa,za,B0,reduceIte,reduceEqDiff]
 have he:=qk hk6
 subst he
 simp only [zp,B0,reduceIte,reduceEqDiff]
 exact rfl
end Go.Proofs.Ytpddolihbnfahaa.X
namespace Go.Proofs.Ytpddolihbnfahaa.X
open Go
open Nat (reduceEqDiff)
theorem qd4 {W:Nat→Bool}{h:Heap} (hW:∀ b,
  (geL h.length) b→W b=true) (logs_0:List (List Int)) (r:Election × Bool) (hF:k6 logs_0=some r) : Ret E W 29 [lst (cL cI) logs_0] h
  (fun v h'=>∃ rv0_0 rc0_0 rv0_1 rc0_1 rv0_2 rc0_2,v = .tup [.agg [rv0_0,rv0_1,rv0_2],
  .bool r.2]∧SlN Server.R 6 46 rv0_0 r.1.Servers rc0_0∧SlF qe 7 93 rv0_1 r.1.Post rc0_1∧SlF ql 2 39 rv0_2 r.1.Led rc0_2∧Sep h' (geL h.length)
  (rc0_0++(rc0_1++(rc0_2++([]))))):=by
 refine Ret.of (fn:=x29) rfl (Run.of ?_)
 unfold k6 at hF
 have zf0:zh [lst (cL cI) logs_0] 0=lst (cL cI) logs_0:=rfl
 generalize zh [lst (cL cI) logs_0]=fr0 at zf0 ⊢
 have hS:Sep h (geL h.length) []:=Sep.nil h
 simp only [x29,qg,qf,jg,B0,reduceIte,reduceEqDiff]
 refine zw hS (fun b1 h2 hS3=>?_)
 simp only [qd,qa,qsc,qg,qf,jg,B0,reduceIte,reduceEqDiff]
 refine zw hS3 (fun b5 h6 hS7=>?_)
 simp only [qa,q3c,qg,qf,zf0,qd,zr,qb,zx,B0,reduceIte,reduceEqDiff]
 obtain ⟨oc21,hX23,hk24⟩:=kn hF
 simp only [q2m]
 refine wb (σ:=Election) logs_0 (fun i19 x20 s110=>ur i19 x20 s110) (fun s fr' h'=>∃ v16 c17,
   fr' 0=lst (cL cI) logs_0∧fr' 2 = .ptr b1 0∧fr' 4 = .ptr b5 0∧fr' 7=lst (cL cI) logs_0∧SlN Server.R 6 46 v16 s.Servers c17∧Sep h' (geL h.length)
   ([Blk1 b1 [.nil,.nil,.nil] 31]++([Blk1 b5 [v16,.nil,.nil] 31]++(c17++([]))))) hX23 ⟨.nil,[],zf0,rfl,rfl,rfl,SlN.nil,
   ((Sep.m1 hS7) : Sep _ (geL h.length) ([Blk1 b1 [.nil,.nil,.nil] 31]++([Blk1 b5 [.nil,.nil,.nil] 31]++([]))))⟩ (by simp only [B0,reduceIte,
   reduceEqDiff]) (by simp only [B0,reduceIte,reduceEqDiff]) (fun _ _ _ h=>h) rfl rfl (fun _ _ _ _ h=>h) (fun _ _ _ _ h=>h) (fun _ _ _ _ h=>h) (by decide) ?_ ?_
 ·rintro i19 x20 s14 fr33 h34 hx40 ⟨v16,c17,f36,f37,f38,f39,hv18,hS35⟩ f41 f42 oc22 hF25 hr26 Q27 hN28 hB32 hK29 hR30 hE31
  unfold ur at hF25
  simp only [q3j,qg,qf,f39,f41,jr,B0,reduceIte,reduceEqDiff]
  refine qh (v := .ref ((cL cI) x20) 0) (wc hx40 rfl) ?_
  simp only [qo,B0,reduceIte,reduceEqDiff]
  refine qh (v:=lst cI x20) rfl ?_
  obtain ⟨v43,hx44,hF45⟩:=qj hF25
  simp only [qd,qa,q6k,qg,qf,qv,B0,reduceIte,reduceEqDiff]
  refine je rfl (qm zm qz) (xn (fun b hb=>decide_eq_true hb) x20 v43 hx44) ?_
  simp only [jj,qb,j9,qd,B0,reduceIte,reduceEqDiff]
  obtain ⟨v49,hx50,hF51⟩:=qj hF45
  refine z7 4 (fun fr' h'=>Sep h' (geL h.length) ([Blk1 b1 [.nil,.nil,.nil] 31]++([Blk1 b5 [v16,.nil,
    .nil] 31]++(c17++([]))))∧fr' 20 = .bool v49∧fr' 0=lst (cL cI) logs_0∧fr' 2 = .ptr b1 0∧fr' 4 = .ptr b5 0∧fr' 6=lst cI x20∧fr' 7=lst
    (cL cI) logs_0∧fr' 8 = .int .i64 (List.length logs_0:Int)∧fr' 9 = .int .i64 (i19:Int)) (fun Q46 hN47=>?_) ?_
  ·simp only [List.take_succ_cons,List.take_zero]
   simp only [qc (g:=16),B0,reduceIte,reduceEqDiff]
   refine qy (t:=(!v43)) (fun hg48=>?_) (fun hg48=>?_)
   ·rw [iteT hg48] at hx50
    simp only [hg48,qc (g:=16),zq,qs,qb,zj,qa,qn,B0,reduceIte,reduceEqDiff]
    have e52:=qk hx50
    exact hN47 _ _ ⟨(Sep.m2 (Sep.m2 (Sep.m2 hS35))),by rw [←e52]; simp only [B0,reduceIte,reduceEqDiff],f36,f37,f38,rfl,f39,f42,f41⟩
   ·rw [iteF hg48] at hx50
    obtain ⟨v53,hx54,hF55⟩:=qj hx50
    simp only [hg48,qc (g:=16),qp,qd,qv,B0,reduceIte,reduceEqDiff]
    refine je rfl (qm zm qz) (qaq (fun b hb=>decide_eq_true hb) x20 v53 hx54) ?_
    simp only [hg48,qc (g:=16),qp,qx,qb,xb,qs,zk,qa,qn,B0,reduceIte,reduceEqDiff]
    have e56:=qk hF55
    exact hN47 _ _ ⟨(Sep.m2 (Sep.m2 (Sep.m2 hS35))),by rw [←e56]; simp only [B0,reduceIte,reduceEqDiff],f36,f37,f38,rfl,f39,f42,f41⟩
  rintro fr57 h66 ⟨hS67,f58,f59,f60,f61,f62,f63,f64,f65⟩
  simp only [List.drop_succ_cons,List.drop_zero]
  simp only [qa,q5p,f58,ze,B0,reduceIte,reduceEqDiff]
  refine zf (t:=v49) (fun hc68=>?_) (fun hc68=>?_)
  ·rw [iteT hc68] at hF51
   simp only [qg,qf,run_build,evp,B0,reduceIte,reduceEqDiff]
   refine qh (v := .agg [.nil,.nil,.nil]) rfl ?_
   simp only [f60,zl,B0,reduceIte,reduceEqDiff]
   refine q9 (us:=[.nil,.nil,.nil]) rfl (cs':=[.nil,.nil,.nil]) hS67 hW rfl rfl (nle rfl) rfl (fun h69 hS70=>?_)
   simp only [qd,qa,za,B0,reduceIte,reduceEqDiff]
   have e71:=qk hF51
   subst e71
   have ho72:=hr26 _ rfl
   have hk73:=hk24
   rw [ho72] at hk73
   dsimp only [jnO] at hk73
   apply hR30
   have he:=qk hk73
   subst he
   refine jt (qm (j6 (bb:=b1) (oo:=0) (v := .agg [.nil,.nil,
     .nil]) (f60) ((zz (Sep.bk _ _ _ hS70)).trans rfl)) (qm (yn (v := .bool false) (rfl)) qz)) ?_
   exact ⟨.nil,[],.nil,[],.nil,[],by first | trivial | rfl,SlN.nil,SlF.nil,SlF.nil,((Sep.dc ((Sep.dc ((Sep.dc (hS70)))))) : Sep _ (geL h.length) ([]))⟩
  rw [iteF hc68] at hF51
  simp only [zi,q0c,jv,f61,qbn,qr,Nat.reduceAdd,Nat.zero_add,Nat.add_zero,q8,ue,B0,reduceIte,reduceEqDiff]
  refine qcw (Sep.ltk (Sep.m1 hS67)) ?_
  refine qw (v:=v16) ((jh (Sep.bk _ _ _ (Sep.m1 hS67))).trans rfl) ?_
  simp only [w6,evp,B0,reduceIte,reduceEqDiff]
  refine wh (n:=1) (f:=cI) ([] : List Int) hS67 rfl rfl (fun v75 c76 h77 hv78 hS79 hq74=>?_)
  simp only [f62,jf,qr,qid,B0,reduceIte,reduceEqDiff]
  obtain ⟨l81,hx82,hF83⟩:=qj hF51
  have hq84:=nwq (fun z hz=>Sep.dj (Sep.m1 (Sep.m1 hS79)) qfq (SlF.rowfp hv78 z hz))
  have hq85:=nwq (fun z hz=>Sep.dj (Sep.m1 (Sep.m2 hS79)) qfq (SlF.rowfp hv78 z hz))
  refine qlk (qsb (fun z hz=>Sep.dj (Sep.m1 (Sep.m2 hS79)) qfq (SlF.rowfp hv78 z hz)) qjz) ?_
  refine wv (f:=cI) hv78 hS79 hW (fun _=>rfl) (fun _=>rfl) (ub (fun _=>rfl)) hx82 (fun v86 c87 h88 hv89 hS90=>?_)
  simp only [qci,evp,B0,reduceIte,reduceEqDiff]
  refine qw (v := .agg [.int .i64 10,.int .i64 (-1),.bool false,.bool false,.nil,v86]) (qeo (qaj (us:=[.int .i64 10]) (vs:=[.int .i64 10,.int .i64 0,
    .bool false,.bool false,.nil,.nil]) rfl rfl (nle rfl) rfl rfl (qaj (us:=[.int .i64 (-1)]) (vs:=[.int .i64 10,.int .i64 (-1),.bool false,.bool false,.nil,
    .nil]) rfl rfl (nle rfl) rfl rfl (qaj (us:=[v86]) (vs:=[.int .i64 10,.int .i64 (-1),.bool false,.bool false,.nil,
    v86]) (js (SlF.one hv89)) rfl (nle rfl) (qq (SlF.one hv89) zo) rfl qfr)))) ?_
  simp only [w6,evp,B0,reduceIte,reduceEqDiff]
  refine qi8 (R:=Server.R) (n:=6) (cs:=[.int .i64 10,.int .i64 (-1),.bool false,.bool false,.nil,
    v86]) (os:=[]++(c87)) (Sep.bi2 (c1:=[]) (c2:=c87) (S:=([Blk1 b1 [.nil,.nil,.nil] 31]++([Blk1 b5 [v16,.nil,
    .nil] 31]++(c17++([]))))) (hS90:Sep _ (geL h.length) (c87++([Blk1 b1 [.nil,.nil,.nil] 31]++([Blk1 b5 [v16,.nil,
    .nil] 31]++(c17++([]))))))) (qaj (us:=[.int .i64 10,.int .i64 (-1),.bool false,.bool false,.nil,v86]) (vs:=[.int .i64 10,.int .i64 (-1),.bool false,
    .bool false,.nil,v86]) rfl rfl (nle rfl) (qq rfl (qq rfl (qq rfl (qq rfl (qq rfl (qq (SlF.one hv89) zo)))))) rfl qfr) (Server.RI (x :=
    (Server.mk 10 (-1) false false [] l81)) SlF.nil hv89) rfl (fun v92 c93 h94 hv95 hS96=>?_)
  simp only [qd2,B0,reduceIte,reduceEqDiff]
  obtain ⟨l98,hx99,hF100⟩:=qj hF83
  refine qll (R:=Server.R) (c:=c17) hv18 hv95 (Sep.m3 hS96) hW Server.RO.len Server.RO.one hx99 (fun v101 c102 h103 hv104 hS105=>?_)
  simp only [f61,jc,qr,Nat.reduceAdd,Nat.zero_add,Nat.add_zero,q8,qbm,B0,reduceIte,reduceEqDiff]
  refine wa (us:=[v101]) (js (SlN.one hv104)) (cs':=[v101,.nil,
    .nil]) (Sep.m2 hS105) hW rfl (qq (SlN.one hv104) zo) (nle rfl) rfl (fun h107 hS108=>?_)
  simp only [zn,qn,B0,reduceIte,reduceEqDiff]
  have e109:=qk hF100
  exact hN28 _ _ _ e109.symm ⟨v101,c102,f59,f60,f61,f63,hv104,(Sep.m2 (Sep.m1 (Sep.m1 hS108)))⟩ (f65) (f64)
 rintro s111 fr116 h117 rfl ⟨v113,c114,f119,f120,f121,f122,hv115,hS118⟩
 dsimp only [jnO] at hk24
 unfold uw at hk24
 simp only [q1v,qg,qf,f119,qd,zr,qb,zx,qv,B0,reduceIte,reduceEqDiff]
 refine je rfl (qm zb (qm zb (qm zb qz))) (u7 (fun b hb=>decide_eq_true hb) (List.length logs_0:Int) 1 5 _ rfl) ?_
 simp only [jj,qb,j9,qa,q1d,ze,B0,reduceIte,reduceEqDiff]
 refine zf (t:=(!(jd (List.length logs_0:Int) 1 5))) (fun hc123=>?_) (fun hc123=>?_)
 ·rw [iteT hc123] at hk24
  simp only [qg,qf,run_build,evp,B0,reduceIte,reduceEqDiff]
  refine qh (v := .agg [.nil,.nil,.nil]) rfl ?_
  simp only [f120,zl,B0,reduceIte,reduceEqDiff]
  refine q9 (us:=[.nil,.nil,.nil]) rfl (cs':=[.nil,.nil,.nil]) hS118 hW rfl rfl (nle rfl) rfl (fun h124 hS125=>?_)
  simp only [qd,qa,za,B0,reduceIte,reduceEqDiff]
  have he:=qk hk24
  subst he
  refine jt (qm (j6 (bb:=b1) (oo:=0) (v := .agg [.nil,.nil,
    .nil]) (f120) ((zz (Sep.bk _ _ _ hS125)).trans rfl)) (qm (yn (v := .bool false) (rfl)) qz)) ?_
  exact ⟨.nil,[],.nil,[],.nil,[],by first | trivial | rfl,SlN.nil,SlF.nil,SlF.nil,((Sep.dc ((Sep.dc ((Sep.dc (hS125)))))) : Sep _ (geL h.length) ([]))⟩
 rw [iteF hc123] at hk24
 simp only [zi,qg,qf,f121,qo,B0,reduceIte,reduceEqDiff]
 refine qh (v := .agg [v113,.nil,.nil]) ((zz (Sep.bk _ _ _ (Sep.m1 hS118))).trans rfl) ?_
 simp only [f120,zl,B0,reduceIte,reduceEqDiff]
 refine q9 (us:=[v113,.nil,.nil]) rfl (cs':=[v113,.nil,
   .nil]) hS118 hW rfl (qq (SlN.one hv115) (qq rfl (qq rfl zo))) (nle rfl) rfl (fun h126 hS127=>?_)
 simp only [qd,qa,za,B0,reduceIte,reduceEqDiff]
 have he:=qk hk24
 subst he
 refine jt (qm (j6 (bb:=b1) (oo:=0) (v := .agg [v113,.nil,
   .nil]) (f120) ((zz (Sep.bk _ _ _ hS127)).trans rfl)) (qm (yn (v := .bool true) (rfl)) qz)) ?_
 exact ⟨v113,c114,.nil,[],.nil,[],by first | trivial | rfl,hv115,SlF.nil,SlF.nil,((Sep.dc ((Sep.dc (hS127)))) : Sep _ (geL h.length) (c114++([])))⟩
theorem qbc {W:Nat→Bool}{h:Heap} (hW:∀ b,
  (geL h.length) b→W b=true) (e_0:Election) (k_1:Int) (r:Bool) (hF:some (jp e_0 k_1)=some r) : Ret E W 63 [.agg [lst qi e_0.Servers,
  lst qe e_0.Post,lst ql e_0.Led],.int .i64 k_1] h (fun v h'=>cut h.length h' E.sz false 9 v=some (.bool r)):=by
 refine Ret.of (fn:=x63) rfl (Run.of ?_)
 unfold jp at hF
 have zf0:zh [.agg [lst qi e_0.Servers,lst qe e_0.Post,lst ql e_0.Led],.int .i64 k_1] 0 = .agg [lst qi e_0.Servers,
   lst qe e_0.Post,lst ql e_0.Led]:=rfl
 have zf1:zh [.agg [lst qi e_0.Servers,lst qe e_0.Post,lst ql e_0.Led],.int .i64 k_1] 1 = .int .i64 k_1:=rfl
 generalize zh [.agg [lst qi e_0.Servers,lst qe e_0.Post,lst ql e_0.Led],.int .i64 k_1]=fr0 at zf0 zf1 ⊢
 have hS:Sep h (geL h.length) []:=Sep.nil h
 simp only [x63,qg,qf,kc,zf0,B0,reduceIte,reduceEqDiff]
 refine jo (cs:=[lst qi e_0.Servers,lst qe e_0.Post,lst ql e_0.Led]) hS rfl rfl rfl (fun b1 h2 hS3=>?_)
 simp only [qd,qa,B0,reduceIte,reduceEqDiff]
 refine zy hS3 hW (by simp only [B0,reduceIte,reduceEqDiff]) (fun h5 hS6=>?_)
 simp only [zv,q4p,qg,qf,zf1,qd,qx,qb,qh4,B0,reduceIte,reduceEqDiff]
 refine z7 6 (fun fr' h'=>Sep h' (geL h.length) ([])∧fr' 13 = .bool ((decide ((0:Int)≤k_1))&&(decide (k_1<(List.length e_0.Servers:Int))))) (fun Q7 hN8=>?_) ?_
 ·simp only [List.take_succ_cons,List.take_zero]
  simp only [qc (g:=7),B0,reduceIte,reduceEqDiff]
  refine qy (t:=(decide ((0:Int)≤k_1))) (fun hg9=>?_) (fun hg9=>?_)
  ·simp only [hg9,qc (g:=7),zg,zf1,qd,qt,qb,Nat.reduceAdd,Nat.zero_add,Nat.add_zero,qu,qo,B0,reduceIte,reduceEqDiff]
   refine qh (v:=lst qi e_0.Servers) rfl ?_
   simp only [hg9,qc (g:=7),zg,zr,qb,zx,qx,qdj,qs,zj,qa,qn,B0,reduceIte,reduceEqDiff]
   exact hN8 _ _ ⟨hS6,by rw [xl hg9]; simp only [B0,reduceIte,reduceEqDiff]⟩
  ·simp only [hg9,qc (g:=7),jl,qs,qb,zk,qa,qn,B0,reduceIte,reduceEqDiff]
   exact hN8 _ _ ⟨hS6,by rw [xm hg9]; simp only [B0,reduceIte,reduceEqDiff]⟩
 rintro fr10 h12 ⟨hS13,f11⟩
 simp only [List.drop_succ_cons,List.drop_zero]
 simp only [f11,qd,qa,za,B0,reduceIte,reduceEqDiff]
 have he:=qk hF
 subst he
 simp only [zp,B0,reduceIte,reduceEqDiff]
 exact rfl
theorem qja {W:Nat→Bool}{h:Heap}{lo:Nat→Prop}{S0:List Obj} (hW:∀ b,
  lo b→W b=true) (e_0:Election) (pv0_0:XV) (pc0_0:List Obj) (ph0_0:SlN Server.R 6 46 pv0_0 e_0.Servers pc0_0) (pv0_1:XV) (pc0_1:List Obj)
  (ph0_1:SlF qe 7 93 pv0_1 e_0.Post pc0_1) (pv0_2:XV) (pc0_2:List Obj) (ph0_2:SlF ql 2 39 pv0_2 e_0.Led pc0_2) (k_1:Int) (r:Election)
  (hF:qdi e_0 k_1=some r) (hS:Sep h lo (pc0_0++(pc0_1++(pc0_2++(S0))))) : Ret E W 116 [.agg [pv0_0,pv0_1,pv0_2],
  .int .i64 k_1] h (fun v h'=>∃ rc0_0 rc0_1 rv0_2 rc0_2,v = .agg [pv0_0,pv0_1,
  rv0_2]∧SlN Server.R 6 46 pv0_0 r.Servers rc0_0∧SlF qe 7 93 pv0_1 r.Post rc0_1∧SlF ql 2 39 rv0_2 r.Led rc0_2∧Sep h' lo (rc0_0++(rc0_1++(rc0_2 ++
  (S0))))):=by
 refine Ret.of (fn:=qqu) rfl (Run.of ?_)
 unfold qdi at hF
 have zf0:zh [.agg [pv0_0,pv0_1,pv0_2],.int .i64 k_1] 0 = .agg [pv0_0,pv0_1,pv0_2]:=rfl
 have zf1:zh [.agg [pv0_0,pv0_1,pv0_2],.int .i64 k_1] 1 = .int .i64 k_1:=rfl
 generalize zh [.agg [pv0_0,pv0_1,pv0_2],.int .i64 k_1]=fr0 at zf0 zf1 ⊢
 simp only [qqu,qg,qf,kc,zf0,B0,reduceIte,reduceEqDiff]
 refine jo (cs:=[pv0_0,pv0_1,pv0_2]) hS rfl rfl (qq (SlN.one ph0_0) (qq (SlF.one ph0_1) (qq (SlF.one ph0_2) zo))) (fun b1 h2 hS3=>?_)
 simp only [jg,B0,reduceIte,reduceEqDiff]
 refine zw hS3 (fun b5 h6 hS7=>?_)
 simp only [qa,qur,qg,qf,qt,qb,Nat.reduceAdd,Nat.zero_add,Nat.add_zero,q8,qo,B0,reduceIte,reduceEqDiff]
 refine qh (v:=pv0_0) ((jh (Sep.bk _ _ _ (Sep.m1 hS7))).trans rfl) ?_
 obtain ⟨x9,hx10,hF11⟩:=qj hF
 simp only [zf1,qd,jr,B0,reduceIte,reduceEqDiff]
 obtain ⟨b12,hb13⟩:=SlN.isrow ph0_0 (wg hx10)
 refine qh (SlN.ia ph0_0 hb13 hx10) ?_
 obtain ⟨c14,cs15,os16,hv17,hR18,hS19⟩:=SlG.opn (SlN.toG ph0_0 hb13 Server.RO.len) hx10 ju Server.RO.len (Sep.m2 hS7)
 obtain ⟨v21,c22,v25,c26,hv23,hv27,rfl,rfl⟩:=hR18
 have hS20:=Sep.no2 hS19
 simp only [qo,B0,reduceIte,reduceEqDiff]
 refine qh (v := .agg [.int .i64 x9.Term,.int .i64 x9.Voted,.bool x9.Stands,.bool x9.Leads,v21,v25]) ((SlG.lds (o:=0) hv17 rfl hx10 hS20 (nle rfl)).trans rfl) ?_
 simp only [jg,B0,reduceIte,reduceEqDiff]
 refine zw hS20 (fun b29 h30 hS31=>?_)
 simp only [zl,B0,reduceIte,reduceEqDiff]
 refine q9 (us:=[.int .i64 x9.Term,.int .i64 x9.Voted,.bool x9.Stands,.bool x9.Leads,v21,v25]) rfl (cs':=[.int .i64 x9.Term,.int .i64 x9.Voted,.bool x9.Stands,
   .bool x9.Leads,v21,v25]) hS31 hW rfl (qq rfl (qq rfl (qq rfl (qq rfl (qq (SlF.one hv23) (qq (SlF.one hv27) zo)))))) (nle rfl) rfl (fun h33 hS34=>?_)
 simp only [qa,qrr,qg,qf,qt,qb,Nat.reduceAdd,Nat.zero_add,Nat.add_zero,q8,qo,B0,reduceIte,reduceEqDiff]
 refine qh (v := .bool x9.Stands) ((jh (Sep.bk _ _ _ hS34)).trans rfl) ?_
 simp only [qd,B0,reduceIte,reduceEqDiff]
 refine z7 9 (fun fr' h'=>Sep h' lo ([Blk1 b1 [pv0_0,pv0_1,pv0_2] 31]++([Blk1 b5 [.nil,.nil,.nil] 31]++([Blk1 b29 [.int .i64 x9.Term,.int .i64 x9.Voted,
   .bool x9.Stands,.bool x9.Leads,v21,
   v25] 46]++(c14++(pc0_1++(pc0_2++(c22++(c26++(S0)))))))))∧fr' 22 = .bool (x9.Stands&&(decide ((List.length e_0.Servers:Int)<(IntKind.wrap .i64
   ((2:Int)*(List.length x9.Got:Int))))))∧fr' 1 = .int .i64 k_1∧fr' 2 = .ptr b1 0∧fr' 4 = .ptr b5 0∧fr' 5 = .ptr b29 0) (fun Q35 hN36=>?_) ?_
 ·simp only [List.take_succ_cons,List.take_zero]
  simp only [qc (g:=13),B0,reduceIte,reduceEqDiff]
  refine qy (t:=x9.Stands) (fun hg37=>?_) (fun hg37=>?_)
  ·simp only [hg37,qc (g:=13),zg,qt,qb,Nat.reduceAdd,Nat.zero_add,Nat.add_zero,q8,qo,B0,reduceIte,reduceEqDiff]
   refine qh (v:=v21) ((jh (Sep.bk _ _ _ hS34)).trans rfl) ?_
   simp only [hg37,qc (g:=13),zg,zr,qb,SlF.plen hv23,qx,qmg,qt,Nat.reduceAdd,Nat.zero_add,Nat.add_zero,q8,qo,B0,
     reduceIte,reduceEqDiff]
   refine qh (v:=pv0_0) ((jh (Sep.bk _ _ _ (Sep.m5 hS34))).trans rfl) ?_
   simp only [hg37,qc (g:=13),zg,zr,qb,SlG.plen hv17,qx,xb,qs,zj,qa,qn,B0,reduceIte,reduceEqDiff]
   exact hN36 _ _ ⟨(Sep.m7 (Sep.m6 (Sep.m5 (Sep.m5 (Sep.m7 (Sep.m7 (Sep.m3 (Sep.m3 hS34)))))))),by rw [xl hg37]; simp only [B0,reduceIte,reduceEqDiff],zf1,rfl,rfl,rfl⟩
  ·simp only [hg37,qc (g:=13),jl,qs,qb,zk,qa,qn,B0,reduceIte,reduceEqDiff]
   exact hN36 _ _ ⟨(Sep.m7 (Sep.m6 (Sep.m5 (Sep.m5 (Sep.m7 (Sep.m7 (Sep.m3 (Sep.m3 hS34)))))))),by rw [xm hg37]; simp only [B0,reduceIte,reduceEqDiff],zf1,rfl,rfl,rfl⟩
 rintro fr38 h44 ⟨hS45,f39,f40,f41,f42,f43⟩
 simp only [List.drop_succ_cons,List.drop_zero]
 simp only [qa,qv3,f39,ze,B0,reduceIte,reduceEqDiff]
 refine zf (t:=(x9.Stands&&(decide ((List.length e_0.Servers:Int)<(IntKind.wrap .i64 ((2:Int)*(List.length x9.Got:Int))))))) (fun hc46=>?_)
   (fun hc46=>?_)
 ·rw [iteT hc46] at hF11
  simp only [qt4,qg,qf,f43,qt,qb,Nat.reduceAdd,Nat.zero_add,Nat.add_zero,q8,zl,B0,reduceIte,reduceEqDiff]
  refine q9 (us:=[.bool false]) rfl (cs':=[.int .i64 x9.Term,.int .i64 x9.Voted,.bool false,.bool x9.Leads,v21,
    v25]) (Sep.m2 hS45) hW rfl rfl (nle rfl) rfl (fun h47 hS48=>?_)
  simp only [qa,qvd,qg,qf,f43,qt,qb,Nat.reduceAdd,Nat.zero_add,Nat.add_zero,q8,zl,B0,reduceIte,reduceEqDiff]
  refine q9 (us:=[.bool true]) rfl (cs':=[.int .i64 x9.Term,.int .i64 x9.Voted,.bool false,.bool true,v21,v25]) hS48 hW rfl rfl (nle rfl) rfl (fun h49 hS50=>?_)
  simp only [qa,qtr,qg,qf,f41,qt,qb,Nat.reduceAdd,Nat.zero_add,Nat.add_zero,q8,qo,B0,reduceIte,reduceEqDiff]
  refine qh (v:=pv0_0) ((jh (Sep.bk _ _ _ (Sep.m1 hS50))).trans rfl) ?_
  simp only [f40,qd,f43,qo,B0,reduceIte,reduceEqDiff]
  refine qh (v := .agg [.int .i64 x9.Term,.int .i64 x9.Voted,.bool false,.bool true,v21,v25]) ((zz (Sep.bk _ _ _ hS50)).trans rfl) ?_
  simp only [jr,B0,reduceIte,reduceEqDiff]
  refine qh (SlG.ia hv17 hx10) ?_
  simp only [zl,B0,reduceIte,reduceEqDiff]
  refine y7 (n:=6) (us:=[.int .i64 x9.Term,.int .i64 x9.Voted,.bool false,.bool true,v21,v25]) (cs:=[.int .i64 x9.Term,.int .i64 x9.Voted,.bool x9.Stands,
    .bool x9.Leads,v21,v25]) (o:=0) (cs':=[.int .i64 x9.Term,.int .i64 x9.Voted,.bool false,.bool true,v21,
    v25]) rfl hv17 rfl hx10 (Sep.m3 hS50) hW rfl (qq rfl (qq rfl (qq rfl (qq rfl (qq (SlF.one hv23) (qq (SlF.one hv27) zo)))))) (nle rfl) rfl
    (fun c53 h51 hv54 hS52=>?_)
  simp only [qa,qvc,qf,f41,qt,qb,Nat.reduceAdd,Nat.zero_add,Nat.add_zero,q8,qo,B0,reduceIte,reduceEqDiff]
  refine qh (v:=pv0_2) ((jh (Sep.bk _ _ _ (Sep.m2 hS52))).trans rfl) ?_
  simp only [f43,qt,qb,Nat.reduceAdd,Nat.zero_add,Nat.add_zero,q8,qo,B0,reduceIte,reduceEqDiff]
  refine qh (v := .int .i64 x9.Term) ((jh (Sep.bk _ _ _ (Sep.m1 hS52))).trans rfl) ?_
  simp only [f40,qd,run_build,evp,B0,reduceIte,reduceEqDiff]
  refine qh (v := .agg [.int .i64 x9.Term,.int .i64 k_1]) rfl ?_
  simp only [j8,evp,B0,reduceIte,reduceEqDiff]
  refine jy (n:=2) (f:=ql) [(Vote.mk x9.Term k_1)] hS52 rfl rfl (fun v55 c56 h57 hv58 hS59=>?_)
  simp only [wu,B0,reduceIte,reduceEqDiff]
  obtain ⟨l61,hx62,hF63⟩:=qj hF11
  refine yx (f:=ql) ph0_2 (Sep.m6 hS59) hW (fun _=>rfl) (fun _=>rfl) (SlF.first hv58 hS59 (fun _=>rfl)) hx62 (fun v64 c65 h66 hv67 hS68=>?_)
  simp only [f41,qt,qb,Nat.reduceAdd,Nat.zero_add,Nat.add_zero,q8,zl,B0,reduceIte,reduceEqDiff]
  refine q9 (us:=[v64]) (js (SlF.one hv67)) (cs':=[pv0_0,pv0_1,v64]) (Sep.m4 hS68) hW rfl (qq (SlF.one hv67) zo) (nle rfl) rfl (fun h70 hS71=>?_)
  simp only [qa,qg,qf,f41,qo,B0,reduceIte,reduceEqDiff]
  refine qh (v := .agg [pv0_0,pv0_1,v64]) ((zz (Sep.bk _ _ _ hS71)).trans rfl) ?_
  simp only [f42,zl,B0,reduceIte,reduceEqDiff]
  refine q9 (us:=[pv0_0,pv0_1,v64]) rfl (cs':=[pv0_0,pv0_1,
    v64]) (Sep.m5 hS71) hW rfl (qq (SlG.one hv54) (qq (SlF.one ph0_1) (qq (SlF.one hv67) zo))) (nle rfl) rfl (fun h72 hS73=>?_)
  simp only [qa,za,B0,reduceIte,reduceEqDiff]
  obtain ⟨c74,hv75,hS76⟩:=SlG.cls (e':=(Server.mk x9.Term x9.Voted false true x9.Got x9.Log)) (c:=c53) (os:=c22++(c26)) hv54 rfl hx10 ju (Server.RI (x :=
    (Server.mk x9.Term x9.Voted false true x9.Got x9.Log)) hv23 hv27) (Sep.ni2 (c1:=c22) (c2:=c26) (Sep.m6 (Sep.m8 (Sep.m8 hS73))))
  have hx77:=wq (x':=(Server.mk x9.Term x9.Voted false true x9.Got x9.Log)) hx10
  have hv78:=SlG.toN hv75
  have he:=qk hF63
  subst he
  refine xe (bb:=b5) (oo:=0) (v := .agg [pv0_0,pv0_1,v64]) (by simp only [f42,B0,reduceIte,reduceEqDiff]) ((zz (Sep.bk _ _ _ (Sep.m1 hS76))).trans rfl) ?_
  exact ⟨c74,pc0_1,v64,c65,by first | trivial | rfl,hv78,ph0_1,hv67,
    (Sep.m2 (Sep.m2 (Sep.m1 (Sep.dc (Sep.m2 (Sep.dc (Sep.m2 (Sep.dc (Sep.m1 (Sep.dc (Sep.m1 hS76)))))))))))⟩
 rw [iteF hc46] at hF11
 simp only [zi,qg,qf,f41,qo,B0,reduceIte,reduceEqDiff]
 refine qh (v := .agg [pv0_0,pv0_1,pv0_2]) ((zz (Sep.bk _ _ _ hS45)).trans rfl) ?_
 simp only [f42,zl,B0,reduceIte,reduceEqDiff]
 refine q9 (us:=[pv0_0,pv0_1,pv0_2]) rfl (cs':=[pv0_0,pv0_1,
   pv0_2]) (Sep.m1 hS45) hW rfl (qq (SlG.one hv17) (qq (SlF.one ph0_1) (qq (SlF.one ph0_2) zo))) (nle rfl) rfl (fun h79 hS80=>?_)
 simp only [qa,za,B0,reduceIte,reduceEqDiff]
 obtain ⟨c81,hv82,hS83⟩:=SlG.cls0 (c:=c14) (os:=c22++(c26)) hv17 rfl hx10 ju (Server.RI (x:=x9) hv23 hv27) (Sep.ni2 (c1:=c22) (c2:=c26) (Sep.m5 (Sep.m7
   (Sep.m7 hS80))))
 have hv84:=SlG.toN hv82
 have he:=qk hF11
 subst he
 refine xe (bb:=b5) (oo:=0) (v := .agg [pv0_0,pv0_1,pv0_2]) (by simp only [f42,B0,reduceIte,reduceEqDiff]) ((zz (Sep.bk _ _ _ (Sep.m1 hS83))).trans rfl) ?_
 exact ⟨c81,pc0_1,pv0_2,pc0_2,by first | trivial | rfl,hv84,ph0_1,ph0_2,(Sep.m2 (Sep.m2 (Sep.m2 (Sep.dc (Sep.m1 (Sep.dc (Sep.m1 (Sep.dc (Sep.m1 hS83)))))))))⟩
theorem qkt {W:Nat→Bool}{h:Heap}{lo:Nat→Prop}{S0:List Obj} (hW:∀ b,
  lo b→W b=true) (v_0:Election) (pv0_0:XV) (pc0_0:List Obj) (ph0_0:SlN Server.R 6 46 pv0_0 v_0.Servers pc0_0) (pv0_1:XV) (pc0_1:List Obj)
  (ph0_1:SlF qe 7 93 pv0_1 v_0.Post pc0_1) (pv0_2:XV) (pc0_2:List Obj) (ph0_2:SlF ql 2 39 pv0_2 v_0.Led pc0_2) (v_1:Int) (r:Election × Bool)
  (hF:qcs v_0 v_1=some r) (hS:Sep h lo (pc0_0++(pc0_1++(pc0_2++(S0))))) : Ret E W 97 [.agg [pv0_0,pv0_1,pv0_2],
  .int .i64 v_1] h (fun v h'=>∃ rc0_0 rv0_1 rc0_1 rv0_2 rc0_2,v = .tup [.agg [pv0_0,rv0_1,rv0_2],
  .bool r.2]∧SlN Server.R 6 46 pv0_0 r.1.Servers rc0_0∧SlF qe 7 93 rv0_1 r.1.Post rc0_1∧SlF ql 2 39 rv0_2 r.1.Led rc0_2∧Sep h' lo (rc0_0++(rc0_1 ++
  (rc0_2++(S0))))):=by
 refine Ret.of (fn:=x97) rfl (Run.of ?_)
 unfold qcs at hF
 have zf0:zh [.agg [pv0_0,pv0_1,pv0_2],.int .i64 v_1] 0 = .agg [pv0_0,pv0_1,pv0_2]:=rfl
 have zf1:zh [.agg [pv0_0,pv0_1,pv0_2],.int .i64 v_1] 1 = .int .i64 v_1:=rfl
 generalize zh [.agg [pv0_0,pv0_1,pv0_2],.int .i64 v_1]=fr0 at zf0 zf1 ⊢
 simp only [x97,qg,qf,kc,zf0,B0,reduceIte,reduceEqDiff]
 refine jo (cs:=[pv0_0,pv0_1,pv0_2]) hS rfl rfl (qq (SlN.one ph0_0) (qq (SlF.one ph0_1) (qq (SlF.one ph0_2) zo))) (fun b1 h2 hS3=>?_)
 simp only [jg,B0,reduceIte,reduceEqDiff]
 refine zw hS3 (fun b5 h6 hS7=>?_)
 simp only [qd,qa,qwb,qg,qf,qt,qb,Nat.reduceAdd,Nat.zero_add,Nat.add_zero,q8,qo,B0,reduceIte,reduceEqDiff]
 refine qh (v:=pv0_0) ((jh (Sep.bk _ _ _ (Sep.m1 hS7))).trans rfl) ?_
 obtain ⟨x9,hx10,hF11⟩:=qj hF
 simp only [zf1,qd,jr,B0,reduceIte,reduceEqDiff]
 obtain ⟨b12,hb13⟩:=SlN.isrow ph0_0 (wg hx10)
 refine qh (SlN.ia ph0_0 hb13 hx10) ?_
 obtain ⟨c14,cs15,os16,hv17,hR18,hS19⟩:=SlG.opn (SlN.toG ph0_0 hb13 Server.RO.len) hx10 ju Server.RO.len (Sep.m2 hS7)
 obtain ⟨v21,c22,v25,c26,hv23,hv27,rfl,rfl⟩:=hR18
 have hS20:=Sep.no2 hS19
 simp only [qo,B0,reduceIte,reduceEqDiff]
 refine qh (v := .agg [.int .i64 x9.Term,.int .i64 x9.Voted,.bool x9.Stands,.bool x9.Leads,v21,v25]) ((SlG.lds (o:=0) hv17 rfl hx10 hS20 (nle rfl)).trans rfl) ?_
 simp only [jg,B0,reduceIte,reduceEqDiff]
 refine zw hS20 (fun b29 h30 hS31=>?_)
 simp only [zl,B0,reduceIte,reduceEqDiff]
 refine q9 (us:=[.int .i64 x9.Term,.int .i64 x9.Voted,.bool x9.Stands,.bool x9.Leads,v21,v25]) rfl (cs':=[.int .i64 x9.Term,.int .i64 x9.Voted,.bool x9.Stands,
   .bool x9.Leads,v21,v25]) hS31 hW rfl (qq rfl (qq rfl (qq rfl (qq rfl (qq (SlF.one hv23) (qq (SlF.one hv27) zo)))))) (nle rfl) rfl (fun h33 hS34=>?_)
 simp only [qa,qxo,qg,qf,qt,qb,Nat.reduceAdd,Nat.zero_add,Nat.add_zero,q8,qo,B0,reduceIte,reduceEqDiff]
 refine qh (v := .bool x9.Leads) ((jh (Sep.bk _ _ _ hS34)).trans rfl) ?_
 simp only [qd,B0,reduceIte,reduceEqDiff]
 refine z7 4 (fun fr' h'=>Sep h' lo ([Blk1 b1 [pv0_0,pv0_1,pv0_2] 31]++([Blk1 b5 [.nil,.nil,.nil] 31]++([Blk1 b29 [.int .i64 x9.Term,.int .i64 x9.Voted,
   .bool x9.Stands,.bool x9.Leads,v21,
   v25] 46]++(c14++(pc0_1++(pc0_2++(c22++(c26++(S0)))))))))∧fr' 19 = .bool (x9.Leads||(decide
   (x9.Term=100)))∧fr' 1 = .int .i64 v_1∧fr' 2 = .ptr b1 0∧fr' 4 = .ptr b5 0∧fr' 6 = .ptr b29 0) (fun Q35 hN36=>?_) ?_
 ·simp only [List.take_succ_cons,List.take_zero]
  simp only [qc (g:=15),B0,reduceIte,reduceEqDiff]
  refine qy (t:=x9.Leads) (fun hg37=>?_) (fun hg37=>?_)
  ·simp only [hg37,qc (g:=15),zq,qs,qb,zj,qa,qn,B0,reduceIte,reduceEqDiff]
   exact hN36 _ _ ⟨(Sep.m7 (Sep.m6 (Sep.m5 (Sep.m5 (Sep.m7 (Sep.m7 (Sep.m3 (Sep.m3 hS34)))))))),by rw [orT hg37]; simp only [B0,reduceIte,reduceEqDiff],zf1,rfl,rfl,rfl⟩
  ·simp only [hg37,qc (g:=15),qp,qt,qb,Nat.reduceAdd,Nat.zero_add,Nat.add_zero,q8,qo,B0,reduceIte,reduceEqDiff]
   refine qh (v := .int .i64 x9.Term) ((jh (Sep.bk _ _ _ hS34)).trans rfl) ?_
   simp only [hg37,qc (g:=15),qp,qx,qb,yh,qs,zk,qa,qn,B0,reduceIte,reduceEqDiff]
   exact hN36 _ _ ⟨(Sep.m7 (Sep.m6 (Sep.m5 (Sep.m5 (Sep.m7 (Sep.m7 (Sep.m3 (Sep.m3 hS34)))))))),by rw [orF hg37]; simp only [B0,reduceIte,reduceEqDiff],zf1,rfl,rfl,rfl⟩
 rintro fr38 h44 ⟨hS45,f39,f40,f41,f42,f43⟩
 simp only [List.drop_succ_cons,List.drop_zero]
 simp only [f39,qd,B0,reduceIte,reduceEqDiff]
 refine z7 10 (fun fr' h'=>Sep h' lo ([Blk1 b1 [pv0_0,pv0_1,pv0_2] 31]++([Blk1 b5 [.nil,.nil,.nil] 31]++([Blk1 b29 [.int .i64 x9.Term,.int .i64 x9.Voted,
   .bool x9.Stands,.bool x9.Leads,v21,
   v25] 46]++(c14++(pc0_1++(pc0_2++(c22++(c26++(S0)))))))))∧fr' 30 = .bool ((x9.Leads||(decide (x9.Term=100)))||(decide ((20:Int)<(IntKind.wrap .i64
   ((IntKind.wrap .i64 ((List.length v_0.Post:Int) +
   (List.length v_0.Servers:Int))) - 1)))))∧fr' 1 = .int .i64 v_1∧fr' 2 = .ptr b1 0∧fr' 4 = .ptr b5 0∧fr' 6 = .ptr b29 0) (fun Q46 hN47=>?_) ?_
 ·simp only [List.take_succ_cons,List.take_zero]
  simp only [qc (g:=20),B0,reduceIte,reduceEqDiff]
  refine qy (t:=(x9.Leads||(decide (x9.Term=100)))) (fun hg48=>?_) (fun hg48=>?_)
  ·simp only [hg48,qc (g:=20),zq,qs,qb,zj,qa,qn,B0,reduceIte,reduceEqDiff]
   exact hN47 _ _ ⟨(Sep.m7 (Sep.m7 (Sep.m7 (Sep.m7 (Sep.m7 (Sep.m7 (Sep.m7 (Sep.m7 hS45)))))))),by rw [orT hg48]; simp only [B0,reduceIte,reduceEqDiff],f40,f41,f42,f43⟩
  ·simp only [hg48,qc (g:=20),qp,f41,qt,qb,Nat.reduceAdd,Nat.zero_add,Nat.add_zero,q8,qo,B0,reduceIte,reduceEqDiff]
   refine qh (v:=pv0_1) ((jh (Sep.bk _ _ _ hS45)).trans rfl) ?_
   simp only [hg48,qc (g:=20),qp,zr,qb,SlF.plen ph0_1,f41,qt,Nat.reduceAdd,Nat.zero_add,Nat.add_zero,q8,qo,B0,
     reduceIte,reduceEqDiff]
   refine qh (v:=pv0_0) ((jh (Sep.bk _ _ _ hS45)).trans rfl) ?_
   simp only [hg48,qc (g:=20),qp,zr,qb,SlG.plen hv17,qx,qam,qbd,xb,qs,zk,qa,qn,B0,reduceIte,
     reduceEqDiff]
   exact hN47 _ _ ⟨(Sep.m7 (Sep.m7 (Sep.m7 (Sep.m7 (Sep.m7 (Sep.m7 (Sep.m7 (Sep.m7 hS45)))))))),by rw [orF hg48]; simp only [B0,reduceIte,reduceEqDiff],f40,f41,f42,f43⟩
 rintro fr49 h55 ⟨hS56,f50,f51,f52,f53,f54⟩
 simp only [List.drop_succ_cons,List.drop_zero]
 simp only [qa,q4x,f50,ze,B0,reduceIte,reduceEqDiff]
 refine zf (t:=((x9.Leads||(decide (x9.Term=100)))||(decide ((20:Int)<(IntKind.wrap .i64 ((IntKind.wrap .i64 ((List.length v_0.Post:Int) +
   (List.length v_0.Servers:Int))) - 1)))))) (fun hc57=>?_) (fun hc57=>?_)
 ·rw [iteT hc57] at hF11
  simp only [qg,qf,f52,qo,B0,reduceIte,reduceEqDiff]
  refine qh (v := .agg [pv0_0,pv0_1,pv0_2]) ((zz (Sep.bk _ _ _ hS56)).trans rfl) ?_
  simp only [f53,zl,B0,reduceIte,reduceEqDiff]
  refine q9 (us:=[pv0_0,pv0_1,pv0_2]) rfl (cs':=[pv0_0,pv0_1,
    pv0_2]) (Sep.m1 hS56) hW rfl (qq (SlG.one hv17) (qq (SlF.one ph0_1) (qq (SlF.one ph0_2) zo))) (nle rfl) rfl (fun h58 hS59=>?_)
  simp only [qd,qa,za,B0,reduceIte,reduceEqDiff]
  obtain ⟨c60,hv61,hS62⟩:=SlG.cls0 (c:=c14) (os:=c22++(c26)) hv17 rfl hx10 ju (Server.RI (x:=x9) hv23 hv27) (Sep.ni2 (c1:=c22) (c2:=c26) (Sep.m5 (Sep.m7
    (Sep.m7 hS59))))
  have hv63:=SlG.toN hv61
  have he:=qk hF11
  subst he
  refine jt (qm (j6 (bb:=b5) (oo:=0) (v := .agg [pv0_0,pv0_1,
    pv0_2]) (f53) ((zz (Sep.bk _ _ _ (Sep.m1 hS62))).trans rfl)) (qm (yn (v := .bool false) (rfl)) qz)) ?_
  exact ⟨c60,pv0_1,pc0_1,pv0_2,pc0_2,by first | trivial | rfl,hv63,ph0_1,ph0_2,(Sep.m2 (Sep.m2 (Sep.m2 (Sep.dc (Sep.m1 (Sep.dc (Sep.m1 (Sep.dc (Sep.m1 hS62)))))))))⟩
 rw [iteF hc57] at hF11
 simp only [zi,qw5,qg,qf,f54,qt,qb,Nat.reduceAdd,Nat.zero_add,Nat.add_zero,q8,qo,B0,reduceIte,reduceEqDiff]
 refine qh (v := .int .i64 x9.Term) ((jh (Sep.bk _ _ _ (Sep.m2 hS56))).trans rfl) ?_
 simp only [qx,qb,qam,f54,qt,Nat.reduceAdd,Nat.zero_add,Nat.add_zero,q8,zl,B0,reduceIte,reduceEqDiff]
 refine q9 (us:=[.int .i64 (IntKind.wrap .i64 (x9.Term+1))]) rfl (cs':=[.int .i64 (IntKind.wrap .i64 (x9.Term+1)),.int .i64 x9.Voted,.bool x9.Stands,
   .bool x9.Leads,v21,v25]) (Sep.m2 hS56) hW rfl rfl (nle rfl) rfl (fun h64 hS65=>?_)
 simp only [qa,qx9,qg,qf,f54,qt,qb,Nat.reduceAdd,Nat.zero_add,Nat.add_zero,q8,zl,B0,reduceIte,reduceEqDiff]
 refine q9 (us:=[.bool true]) rfl (cs':=[.int .i64 (IntKind.wrap .i64 (x9.Term+1)),.int .i64 x9.Voted,.bool true,.bool x9.Leads,v21,
   v25]) hS65 hW rfl rfl (nle rfl) rfl (fun h66 hS67=>?_)
 simp only [qa,qwa,qg,qf,f51,qd,f54,qt,qb,Nat.reduceAdd,Nat.zero_add,Nat.add_zero,q8,zl,B0,reduceIte,reduceEqDiff]
 refine q9 (us:=[.int .i64 v_1]) rfl (cs':=[.int .i64 (IntKind.wrap .i64 (x9.Term+1)),.int .i64 v_1,.bool true,.bool x9.Leads,v21,
   v25]) hS67 hW rfl rfl (nle rfl) rfl (fun h68 hS69=>?_)
 simp only [qa,qrq,qg,qf,f51,qd,j8,evp,B0,reduceIte,reduceEqDiff]
 refine jy (n:=1) (f:=cI) [v_1] hS69 rfl rfl (fun v70 c71 h72 hv73 hS74=>?_)
 simp only [f54,qt,qb,Nat.reduceAdd,Nat.zero_add,Nat.add_zero,q8,zl,B0,reduceIte,reduceEqDiff]
 refine q9 (us:=[v70]) (js (SlF.one hv73)) (cs':=[.int .i64 (IntKind.wrap .i64 (x9.Term+1)),.int .i64 v_1,.bool true,.bool x9.Leads,v70,
   v25]) (Sep.m1 hS74) hW rfl (qq (SlF.one hv73) zo) (nle rfl) rfl (fun h76 hS77=>?_)
 simp only [qa,qwx,qg,qf,f52,qt,qb,Nat.reduceAdd,Nat.zero_add,Nat.add_zero,q8,qo,B0,reduceIte,reduceEqDiff]
 refine qh (v:=pv0_0) ((jh (Sep.bk _ _ _ (Sep.m2 hS77))).trans rfl) ?_
 simp only [f51,qd,f54,qo,B0,reduceIte,reduceEqDiff]
 refine qh (v := .agg [.int .i64 (IntKind.wrap .i64 (x9.Term+1)),.int .i64 v_1,.bool true,.bool x9.Leads,v70,v25]) ((zz (Sep.bk _ _ _ hS77)).trans rfl) ?_
 simp only [jr,B0,reduceIte,reduceEqDiff]
 refine qh (SlG.ia hv17 hx10) ?_
 simp only [zl,B0,reduceIte,reduceEqDiff]
 refine y7 (n:=6) (us:=[.int .i64 (IntKind.wrap .i64 (x9.Term+1)),.int .i64 v_1,.bool true,.bool x9.Leads,v70,v25]) (cs:=[.int .i64 x9.Term,
   .int .i64 x9.Voted,.bool x9.Stands,.bool x9.Leads,v21,v25]) (o:=0) (cs':=[.int .i64 (IntKind.wrap .i64 (x9.Term+1)),.int .i64 v_1,.bool true,.bool x9.Leads,
   v70,v25]) rfl hv17 rfl hx10 (Sep.m4 hS77) hW rfl (qq rfl (qq rfl (qq rfl (qq rfl (qq (SlF.one hv73) (qq (SlF.one hv27) zo)))))) (nle rfl) rfl
   (fun c80 h78 hv81 hS79=>?_)
 simp only [qa,q39,qg,qf,f52,qt,qb,Nat.reduceAdd,Nat.zero_add,Nat.add_zero,q8,qo,B0,reduceIte,reduceEqDiff]
 refine qh (v:=pv0_0) ((jh (Sep.bk _ _ _ (Sep.m3 hS79))).trans rfl) ?_
 simp only [zr,qb,SlG.plen hv81,qd,qa,B0,reduceIte,reduceEqDiff]
 obtain ⟨oc94,hX96,hk97⟩:=kn hF11
 simp only [q45]
 refine qf1 (σ:=Election) (fun i92 s140=>qaw v_0 v_1 x9 i92 s140) (fun s fr' h'=>∃ v89 c90,
   fr' 1 = .int .i64 v_1∧fr' 2 = .ptr b1 0∧fr' 4 = .ptr b5 0∧fr' 6 = .ptr b29 0∧SlF qe 7 93 v89 s.Post c90∧Sep h' lo ([Blk1 b1 [pv0_0,v89,
   pv0_2] 31]++([Blk1 b5 [.nil,.nil,.nil] 31]++([Blk1 b29 [.int .i64 (IntKind.wrap .i64 (x9.Term+1)),.int .i64 v_1,.bool true,.bool x9.Leads,v70,
   v25] 46]++(c80++(c90++(pc0_2++(c71++(c26++(S0)))))))))) hX96 ⟨pv0_1,pc0_1,f51,f52,f53,f54,ph0_1,
   (Sep.m7 (Sep.m7 (Sep.m5 (Sep.m4 (Sep.m7 (Sep.m7 (Sep.m3 (Sep.m7 (Sep.dc (Sep.m7 hS79))))))))))⟩ (by simp only [B0,reduceIte,reduceEqDiff]) (by simp only [B0,reduceIte,
   reduceEqDiff]) (fun _ _ _ h=>h) rfl rfl (fun _ _ _ _ h=>h) (fun _ _ _ _ h=>h) (fun _ _ _ _ h=>h) (by decide) ?_ ?_
 ·rintro i92 s87 fr106 h107 hx113 ⟨v89,c90,f109,f110,f111,f112,hv91,hS108⟩ f114 f115 oc95 hF98 hr99 Q100 hN101 hB105 hK102 hR103 hE104
  unfold qaw at hF98
  simp only [q1h,qg,qf,f114,qd,qa,q19,f109,qx,qb,qd1,q42,ze,B0,reduceIte,reduceEqDiff]
  refine zf (t:=(decide ((i92:Int)≠v_1))) (fun hc116=>?_) (fun hc116=>?_)
  ·rw [iteT hc116] at hF98
   simp only [q5y,jv,f110,qbn,qr,Nat.reduceAdd,Nat.zero_add,Nat.add_zero,q8,ue,B0,reduceIte,reduceEqDiff]
   refine qcw (Sep.ltk hS108) ?_
   refine qw (v:=v89) ((jh (Sep.bk _ _ _ hS108)).trans rfl) ?_
   simp only [qfb,qr,f109,f112,qbn,Nat.reduceAdd,Nat.zero_add,Nat.add_zero,q8,ue,B0,reduceIte,reduceEqDiff]
   refine qcw (Sep.ltk (Sep.m2 hS108)) ?_
   refine qw (v := .int .i64 (IntKind.wrap .i64 (x9.Term+1))) ((jh (Sep.bk _ _ _ (Sep.m2 hS108))).trans rfl) ?_
   simp only [f112,jc,qr,Nat.reduceAdd,Nat.zero_add,Nat.add_zero,q8,ja,B0,reduceIte,reduceEqDiff]
   refine qw (v:=v25) ((jh (Sep.bk _ _ _ (Sep.m2 hS108))).trans rfl) ?_
   obtain ⟨v117,hx118,hF119⟩:=qj hF98
   simp only [ua,B0,reduceIte,reduceEqDiff]
   refine qjm rfl (qm (SlF.snap hv27 (Sep.m7 hS108) rfl (fun _=>rfl) (fun _=>rfl)) qz) (qaq (fun b hb=>decide_eq_true hb) x9.Log v117 hx118) ?_
   simp only [f112,qbn,qr,Nat.reduceAdd,Nat.zero_add,Nat.add_zero,q8,ue,B0,reduceIte,reduceEqDiff]
   refine qcw (Sep.ltk (Sep.m2 hS108)) ?_
   refine qw (v:=v25) ((jh (Sep.bk _ _ _ (Sep.m2 hS108))).trans rfl) ?_
   simp only [qk8,qr,SlF.plen hv27,qci,evp,B0,reduceIte,reduceEqDiff]
   refine qw (v := .agg [.int .i64 (i92:Int),.int .i64 v_1,.int .i64 (IntKind.wrap .i64 (x9.Term+1)),.bool true,.int .i64 v117,
     .int .i64 (List.length x9.Log:Int),.bool false]) rfl ?_
   simp only [w6,evp,B0,reduceIte,reduceEqDiff]
   refine wh (n:=7) (f:=qe) [(Letter.mk (i92:Int) v_1 (IntKind.wrap .i64 (x9.Term+1)) true v117 (List.length x9.Log:Int) false)] hS108 rfl rfl
     (fun v121 c122 h123 hv124 hS125 hq120=>?_)
   simp only [qd2,B0,reduceIte,reduceEqDiff]
   obtain ⟨l127,hx128,hF129⟩:=qj hF119
   refine wv (f:=qe) hv91 (Sep.m5 hS125) hW (fun _=>rfl) (fun _=>rfl) (SlF.first hv124 hS125 (fun _=>rfl)) hx128 (fun v130 c131 h132 hv133 hS134=>?_)
   simp only [f110,jc,qr,Nat.reduceAdd,Nat.zero_add,Nat.add_zero,q8,qbm,B0,reduceIte,reduceEqDiff]
   refine wa (us:=[v130]) (js (SlF.one hv133)) (cs':=[pv0_0,v130,
     pv0_2]) (Sep.m2 hS134) hW rfl (qq (SlF.one hv133) zo) (nle rfl) rfl (fun h136 hS137=>?_)
   simp only [zn,qn,B0,reduceIte,reduceEqDiff]
   have e138:=qk hF129
   exact hN101 _ _ _ e138.symm ⟨v130,c131,f109,f110,f111,f112,hv133,
     (Sep.m7 (Sep.m7 (Sep.m7 (Sep.m7 (Sep.m4 (Sep.m7 (Sep.m7 (Sep.m7 (Sep.dc (Sep.m2 hS137))))))))))⟩ (f114) (f115)
  rw [iteF hc116] at hF98
  simp only [zi,qn,B0,reduceIte,reduceEqDiff]
  have e139:=qk hF98
  exact hN101 _ _ _ e139.symm ⟨v89,c90,f109,f110,f111,f112,hv91,(Sep.m7 (Sep.m7 (Sep.m7 (Sep.m7 (Sep.m7 (Sep.m7 (Sep.m7 (Sep.m7 hS108))))))))⟩ (f114) (f115)
 rintro s141 fr146 h147 rfl ⟨v143,c144,f149,f150,f151,f152,hv145,hS148⟩
 dsimp only [jnO] at hk97
 unfold qek at hk97
 simp only [qz3,qg,qf,f150,qo,B0,reduceIte,reduceEqDiff]
 refine qh (v := .agg [pv0_0,v143,pv0_2]) ((zz (Sep.bk _ _ _ hS148)).trans rfl) ?_
 obtain ⟨c153,hv154,hS155⟩:=SlG.cls (e':=(Server.mk (IntKind.wrap .i64 (x9.Term+1)) v_1 true x9.Leads [v_1] x9.Log)) (c:=c80) (os:=c71++(c26)) hv81 rfl hx10 ju
   (Server.RI (x:=(Server.mk (IntKind.wrap .i64 (x9.Term+1)) v_1 true x9.Leads [v_1] x9.Log)) hv73 hv27) (Sep.ni2 (c1:=c71) (c2:=c26) (Sep.m5 (Sep.m7 (Sep.m7 hS148))))
 have hx156:=wq (x':=(Server.mk (IntKind.wrap .i64 (x9.Term+1)) v_1 true x9.Leads [v_1] x9.Log)) hx10
 have hv157:=SlG.toN hv154
 obtain ⟨v158,hx159,hF160⟩:=qj hk97
 simp only [f149,qd,qv,B0,reduceIte,reduceEqDiff]
 refine kg rfl (qja hW (Election.mk (List.set v_0.Servers v_1.toNat (Server.mk (IntKind.wrap .i64
   (x9.Term+1)) v_1 true x9.Leads [v_1] x9.Log)) s141.Post v_0.Led) pv0_0 c153 hv157 v143 c144 hv145 pv0_2 pc0_2 ph0_2 v_1 v158 hx159 (Sep.m2 (Sep.m5 (Sep.m5 hS155)))) ?_
 rintro _ h169 ⟨c161,c163,v165,c166,rfl,hv162,hv164,hv167,hS170⟩
 simp only [f151,zl,B0,reduceIte,reduceEqDiff]
 refine q9 (us:=[pv0_0,v143,v165]) rfl (cs':=[pv0_0,v143,
   v165]) (Sep.m4 hS170) hW rfl (qq (SlN.one hv162) (qq (SlF.one hv164) (qq (SlF.one hv167) zo))) (nle rfl) rfl (fun h171 hS172=>?_)
 simp only [qd,qa,za,B0,reduceIte,reduceEqDiff]
 have he:=qk hF160
 subst he
 refine jt (qm (j6 (bb:=b5) (oo:=0) (v := .agg [pv0_0,v143,
   v165]) (f151) ((zz (Sep.bk _ _ _ hS172)).trans rfl)) (qm (yn (v := .bool true) (rfl)) qz)) ?_
 exact ⟨c161,v143,c163,v165,c166,by first | trivial | rfl,hv162,hv164,hv167,(Sep.m2 (Sep.m2 (Sep.m2 (Sep.dc (Sep.m3 (Sep.dc (Sep.m3 (Sep.dc (hS172)))))))))⟩
theorem qh6 {W:Nat→Bool}{h:Heap} (hW:∀ b,
  (geL h.length) b→W b=true) (last_0:Int) (long_1:Int) (l_2:List Int) (r:Bool) (hF:qe0 last_0 long_1 l_2=some r) : Ret E W 65 [.int .i64 last_0,
  .int .i64 long_1,lst cI l_2] h (fun v h'=>cut h.length h' E.sz false 9 v=some (.bool r)):=by
 refine Ret.of (fn:=x65) rfl (Run.of ?_)
 unfold qe0 at hF
 have zf0:zh [.int .i64 last_0,.int .i64 long_1,lst cI l_2] 0 = .int .i64 last_0:=rfl
 have zf1:zh [.int .i64 last_0,.int .i64 long_1,lst cI l_2] 1 = .int .i64 long_1:=rfl
 have zf2:zh [.int .i64 last_0,.int .i64 long_1,lst cI l_2] 2=lst cI l_2:=rfl
 generalize zh [.int .i64 last_0,.int .i64 long_1,lst cI l_2]=fr0 at zf0 zf1 zf2 ⊢
 have hS:Sep h (geL h.length) []:=Sep.nil h
 obtain ⟨v1,hx2,hF3⟩:=qj hF
 simp only [x65,qg,qf,qd,qa,q61,zf0,zf2,qv,B0,reduceIte,reduceEqDiff]
 refine je rfl (qm zm qz) (qaq (fun b hb=>decide_eq_true hb) l_2 v1 hx2) ?_
 simp only [qx,qb,xb,qd,B0,reduceIte,reduceEqDiff]
 obtain ⟨v7,hx8,hF9⟩:=qj hF3
 refine z7 11 (fun fr' h'=>Sep h' (geL h.length) ([])∧fr' 22 = .bool v7) (fun Q4 hN5=>?_) ?_
 ·simp only [List.take_succ_cons,List.take_zero]
  simp only [qc (g:=11),B0,reduceIte,reduceEqDiff]
  refine qy (t:=(decide (v1<last_0))) (fun hg6=>?_) (fun hg6=>?_)
  ·rw [iteT hg6] at hx8
   simp only [hg6,qc (g:=11),zq,qc (g:=16),ym,qs,qb,zj,qa,qn,B0,reduceIte,reduceEqDiff]
   have e10:=qk hx8
   exact hN5 _ _ ⟨hS,by rw [←e10]; simp only [B0,reduceIte,reduceEqDiff]⟩
  ·rw [iteF hg6] at hx8
   obtain ⟨v11,hx12,hF13⟩:=qj hx8
   simp only [hg6,qc (g:=11),qp,zf0,qd,zf2,qv,B0,reduceIte,reduceEqDiff]
   refine je rfl (qm zm qz) (qaq (fun b hb=>decide_eq_true hb) l_2 v11 hx12) ?_
   simp only [hg6,qc (g:=11),qp,qx,qb,yh,qd,B0,reduceIte,reduceEqDiff]
   refine z7 5 (fun fr' h'=>Sep h' (geL h.length) ([])∧fr' 21 = .bool ((decide (last_0=v11))&&(decide ((List.length l_2:Int)≤long_1)))∧fr' 11 = .bool (decide
     (v1<last_0))) (fun Q14 hN15=>?_) ?_
   ·simp only [List.take_succ_cons,List.take_zero]
    simp only [qc (g:=16),B0,reduceIte,reduceEqDiff]
    refine qy (t:=(decide (last_0=v11))) (fun hg16=>?_) (fun hg16=>?_)
    ·simp only [hg16,qc (g:=16),zg,zf1,qd,zf2,zr,qb,zx,qx,qh4,hg6,qc (g:=11),qp,qs,
      zj,qa,qn,B0,reduceIte,reduceEqDiff]
     exact hN15 _ _ ⟨hS,by rw [xl hg16]; simp only [B0,reduceIte,reduceEqDiff],by simp only [hg6,B0,reduceIte,reduceEqDiff]⟩
    ·simp only [hg16,qc (g:=16),jl,hg6,qc (g:=11),qp,qs,qb,zk,qa,qn,B0,reduceIte,reduceEqDiff]
     exact hN15 _ _ ⟨hS,by rw [xm hg16]; simp only [B0,reduceIte,reduceEqDiff],by simp only [hg6,B0,reduceIte,reduceEqDiff]⟩
   rintro fr17 h20 ⟨hS21,f18,f19⟩
   simp only [List.drop_succ_cons,List.drop_zero]
   simp only [f19,hg6,qs,qb,zk,f18,qa,qn,B0,reduceIte,reduceEqDiff]
   have e22:=qk hF13
   exact hN5 _ _ ⟨hS21,by rw [←e22]; simp only [B0,reduceIte,reduceEqDiff]⟩
 rintro fr23 h25 ⟨hS26,f24⟩
 simp only [List.drop_succ_cons,List.drop_zero]
 simp only [f24,qd,qa,za,B0,reduceIte,reduceEqDiff]
 have he:=qk hF9
 subst he
 simp only [zp,B0,reduceIte,reduceEqDiff]
 exact rfl
theorem qnn {W:Nat→Bool}{h:Heap}{lo:Nat→Prop}{S0:List Obj} (hW:∀ b,
  lo b→W b=true) (k:Nat) (pv0:XV) (pc0:List Obj) (l_0:List Int) (ph0:SlF cI 1 3 pv0 l_0 pc0) (n_1:Int) (r:List Int) (hF:qd9 k l_0 n_1=some r)
  (hS:Sep h lo (pc0++(S0))) : Ret E W 117 [pv0,.int .i64 n_1] h (fun v h'=>∃ rv0 rc0,v=rv0∧SlF cI 1 3 rv0 r rc0∧Sep h' lo (rc0++(S0))):=by
 refine Ret.of (fn:=qqx) rfl (Run.of ?_)
 unfold qd9 at hF
 have zf0:zh [pv0,.int .i64 n_1] 0=pv0:=rfl
 have zf1:zh [pv0,.int .i64 n_1] 1 = .int .i64 n_1:=rfl
 generalize zh [pv0,.int .i64 n_1]=fr0 at zf0 zf1 ⊢
 simp only [qqx,qg,qf,qd,qa,qpn,qwq,B0,reduceIte,reduceEqDiff]
 obtain ⟨oc5,hX7,hk8⟩:=kn hF
 simp only [qus]
 refine qg4 (σ:=Int) (fun s47=>qeu l_0 n_1 s47) (fun s fr' h'=>fr' 0=pv0∧fr' 1 = .int .i64 n_1∧fr' 5 = .int .i64 s∧Sep h' lo (pc0++(S0))) hX7 ⟨zf0,
   zf1,rfl,hS⟩ (fun _ _ _ h=>h) ?_ ?_
 ·rintro s2 fr17 h18 ⟨f20,f21,f22,hS19⟩ oc6 hF9 hr10 Q11 hN12 hK13 hR14 hE15
  unfold qeu at hF9
  simp only [qtv,qg,qf,f22,qd,f20,zr,qb,SlF.plen ph0,qx,qdj,B0,reduceIte,reduceEqDiff]
  obtain ⟨v27,hx28,hF29⟩:=qj hF9
  refine z7 7 (fun fr' h'=>Sep h' lo (pc0++(S0))∧fr' 18 = .bool v27∧fr' 0=pv0∧fr' 1 = .int .i64 n_1∧fr' 5 = .int .i64 s2) (fun Q24 hN25=>?_) ?_
  ·simp only [List.take_succ_cons,List.take_zero]
   simp only [qc (g:=11),B0,reduceIte,reduceEqDiff]
   refine qy (t:=(decide (s2<(List.length l_0:Int)))) (fun hg26=>?_) (fun hg26=>?_)
   ·rw [iteT hg26] at hx28
    obtain ⟨x30,hx31,hF32⟩:=qj hx28
    simp only [hg26,qc (g:=11),zg,f20,qd,f22,jr,B0,reduceIte,reduceEqDiff]
    obtain ⟨b33,hb34⟩:=SlF.isrow ph0 (wg hx31)
    refine qh (SlF.ia ph0 hb34 hx31) ?_
    simp only [hg26,qc (g:=11),zg,qo,B0,reduceIte,reduceEqDiff]
    refine qh (v := .int .i64 x30) ((SlF.ld (o:=0) ph0 hS19 hb34 hx31 (fun _=>rfl) (nle rfl)).trans rfl) ?_
    simp only [hg26,qc (g:=11),zg,f21,qd,qx,qb,qdj,qs,zj,qa,qn,B0,reduceIte,reduceEqDiff]
    have e35:=qk hF32
    exact hN25 _ _ ⟨hS19,by rw [←e35]; simp only [B0,reduceIte,reduceEqDiff],f20,f21,f22⟩
   ·rw [iteF hg26] at hx28
    simp only [hg26,qc (g:=11),jl,qs,qb,zk,qa,qn,B0,reduceIte,reduceEqDiff]
    have e36:=qk hx28
    exact hN25 _ _ ⟨hS19,by rw [←e36]; simp only [B0,reduceIte,reduceEqDiff],f20,f21,f22⟩
  rintro fr37 h42 ⟨hS43,f38,f39,f40,f41⟩
  simp only [List.drop_succ_cons,List.drop_zero]
  simp only [qa,f38,ze,B0,reduceIte,reduceEqDiff]
  refine zf (t:=v27) (fun hc44=>?_) (fun hc44=>?_)
  ·rw [iteT hc44] at hF29
   simp only [zi,qaa,qf,f41,qd,qx,qb,qam,qa,um,qn,B0,reduceIte,reduceEqDiff]
   have e45:=qk hF29
   exact hN12 _ _ _ e45.symm ⟨f39,f40,rfl,hS43⟩
  rw [iteF hc44] at hF29
  simp only [qdz,qc9,qe4,B0,reduceIte,reduceEqDiff]
  have e46:=qk hF29
  exact hK13 _ _ _ e46.symm ⟨f39,f40,f41,hS43⟩
 rintro s48 fr49 h50 rfl ⟨f52,f53,f54,hS51⟩
 dsimp only [jnO] at hk8
 unfold qgv at hk8
 simp only [qsp,qg,qf,f54,qd,f52,zr,qb,SlF.plen ph0,qx,qdj,B0,reduceIte,reduceEqDiff]
 obtain ⟨v58,hx59,hF60⟩:=qj hk8
 refine z7 7 (fun fr' h'=>Sep h' lo (pc0++(S0))∧fr' 32 = .bool v58∧fr' 0=pv0∧fr' 1 = .int .i64 n_1∧fr' 5 = .int .i64 s48) (fun Q55 hN56=>?_) ?_
 ·simp only [List.take_succ_cons,List.take_zero]
  simp only [qc (g:=25),B0,reduceIte,reduceEqDiff]
  refine qy (t:=(decide (s48<(List.length l_0:Int)))) (fun hg57=>?_) (fun hg57=>?_)
  ·rw [iteT hg57] at hx59
   obtain ⟨x61,hx62,hF63⟩:=qj hx59
   simp only [hg57,qc (g:=25),zg,f52,qd,f54,jr,B0,reduceIte,reduceEqDiff]
   obtain ⟨b64,hb65⟩:=SlF.isrow ph0 (wg hx62)
   refine qh (SlF.ia ph0 hb65 hx62) ?_
   simp only [hg57,qc (g:=25),zg,qo,B0,reduceIte,reduceEqDiff]
   refine qh (v := .int .i64 x61) ((SlF.ld (o:=0) ph0 hS51 hb65 hx62 (fun _=>rfl) (nle rfl)).trans rfl) ?_
   simp only [hg57,qc (g:=25),zg,f53,qd,qx,qb,yh,qs,zj,qa,qn,B0,reduceIte,reduceEqDiff]
   have e66:=qk hF63
   exact hN56 _ _ ⟨hS51,by rw [←e66]; simp only [B0,reduceIte,reduceEqDiff],f52,f53,f54⟩
  ·rw [iteF hg57] at hx59
   simp only [hg57,qc (g:=25),jl,qs,qb,zk,qa,qn,B0,reduceIte,reduceEqDiff]
   have e67:=qk hx59
   exact hN56 _ _ ⟨hS51,by rw [←e67]; simp only [B0,reduceIte,reduceEqDiff],f52,f53,f54⟩
 rintro fr68 h73 ⟨hS74,f69,f70,f71,f72⟩
 simp only [List.drop_succ_cons,List.drop_zero]
 simp only [qa,qvw,f69,ze,B0,reduceIte,reduceEqDiff]
 refine zf (t:=v58) (fun hc75=>?_) (fun hc75=>?_)
 ·rw [iteT hc75] at hF60
  simp only [qg,qf,f70,qd,qa,za,B0,reduceIte,reduceEqDiff]
  have he:=qk hF60
  subst he
  simp only [zp,B0,reduceIte,reduceEqDiff]
  exact ⟨pv0,pc0,by first | trivial | rfl,ph0,hS74⟩
 rw [iteF hc75] at hF60
 obtain ⟨l76,hx77,hF78⟩:=qj hF60
 simp only [zi,qss,qg,qf,qd,qa,qr0,f70,f72,qg7,Option.map_some,Option.map_none,B0,reduceIte,reduceEqDiff]
 obtain ⟨w79,i80,he81,hw82⟩:=SlF.win (f:=cI) (ty:=3) none (some s48) ph0 hx77 hS74
 refine qh he81 ?_
 simp only [wu,B0,reduceIte,reduceEqDiff]
 obtain ⟨l83,hx84,hF85⟩:=qj hF78
 refine yx (f:=cI) SlF.nil hS74 hW (fun _=>rfl) (fun _=>rfl) (SlW.first hw82 ph0 hS74 (fun _=>rfl)) hx84 (fun v86 c87 h88 hv89 hS90=>?_)
 simp only [qd,qa,qup,qg,qf,f71,j8,evp,B0,reduceIte,reduceEqDiff]
 refine jy (n:=1) (f:=cI) [n_1] hS90 rfl rfl (fun v92 c93 h94 hv95 hS96=>?_)
 simp only [wu,B0,reduceIte,reduceEqDiff]
 obtain ⟨l98,hx99,hF100⟩:=qj hF85
 refine yx (f:=cI) hv89 (Sep.m1 hS96) hW (fun _=>rfl) (fun _=>rfl) (SlF.first hv95 hS96 (fun _=>rfl)) hx99 (fun v101 c102 h103 hv104 hS105=>?_)
 obtain ⟨l107,hx108,hF109⟩:=qj hF100
 simp only [qd,qa,qx5,qg,qf,f70,f72,qg7,Option.map_some,Option.map_none,B0,reduceIte,reduceEqDiff]
 obtain ⟨w110,i111,he112,hw113⟩:=SlF.win (f:=cI) (ty:=3) (some s48) none ph0 hx108 (Sep.m2 hS105)
 refine qh he112 ?_
 simp only [wu,B0,reduceIte,reduceEqDiff]
 obtain ⟨l114,hx115,hF116⟩:=qj hF109
 refine yx (f:=cI) hv104 hS105 hW (fun _=>rfl) (fun _=>rfl) (SlW.first hw113 ph0 (Sep.m2 hS105) (fun _=>rfl)) hx115 (fun v117 c118 h119 hv120 hS121=>?_)
 simp only [qd,qa,za,B0,reduceIte,reduceEqDiff]
 have he:=qk hF116
 subst he
 simp only [zp,B0,reduceIte,reduceEqDiff]
 exact ⟨v117,c118,by first | trivial | rfl,hv120,(Sep.dc (Sep.m1 (Sep.dc (Sep.m1 hS121))))⟩
end Go.Proofs.Ytpddolihbnfahaa.X
