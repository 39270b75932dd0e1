/- The functions' code comes to what the plain functions say (1). -/
import Derived.Test.YtpkiieniipenjaaXCF
import Derived.Test.YtpkiieniipenjaaXCD
set_option linter.unusedVariables false
set_option linter.unusedSimpArgs false
set_option maxRecDepth 100000
namespace Go.Proofs.Ytpkiieniipenjaa.X
open Go
open Nat (reduceEqDiff)
def Chan.R:Rep Chan:=fun x cs os=>∃ (v2:XV) (c2:List Obj),SlF cI 1 3 v2 x.Way c2∧cs=[.int .i64 x.From,.int .i64 x.To,v2]∧c2=os
theorem Chan.RI {x:Chan}{v2:XV}{c2:List Obj}(h2:SlF cI 1 3 v2 x.Way c2) : Chan.R x [.int .i64 x.From,.int .i64 x.To,v2] (c2):=⟨v2,c2,h2,rfl,rfl⟩
theorem Chan.RO:RepOk E.sz Chan.R Chan.cells 3 where
 len:=fun {x cs os} H=>by
  obtain ⟨v2,c2,h2,rfl,rfl⟩:=H
  rfl
 flen:=fun _=>rfl
 one:=fun {x cs os} H=>by
  obtain ⟨v2,c2,h2,rfl,rfl⟩:=H
  exact (qi rfl (qi rfl (qi (SlF.one h2) zk)))
 snap:=fun {x cs os h lo S} m H hS=>by
  obtain ⟨v2,c2,h2,rfl,rfl⟩:=H
  have hS2:Sep h lo (c2++S):=(by simpa only [List.append_assoc] using hS)
  exact (qj qq (qj qq (qj (SlF.snap h2 hS2 rfl (fun _=>rfl) (fun _=>rfl)) q9)))
 cut:=fun {x cs os h lo n0 keep S} m H hS hge=>by
  obtain ⟨v2,c2,h2,rfl,rfl⟩:=H
  have hS2:Sep h lo (c2++S):=(by simpa only [List.append_assoc] using hS)
  exact (qj rfl (qj rfl (qj (SlF.cut h2 hS2 hge rfl (fun _=>rfl) (fun _=>rfl)) q9)))
 free:=fun {x cs os} H=>by
  obtain ⟨v2,c2,h2,rfl,rfl⟩:=H
  exact (qi rfl (qi rfl (qi (SlF.free1 h2) zk)))
 pf:=fun {x cs os} H=>by
  obtain ⟨v2,c2,h2,rfl,rfl⟩:=H
  exact (SlF.pf h2 (fun _=>rfl))
def Picture.R:Rep Picture:=fun x cs os=>∃ (v2:XV) (c2:List Obj) (v3:XV) (c3:List Obj),SlF cI 1 3 v2 x.In c2∧SlF cB 1 4 v3 x.Closed c3∧cs=[.bool x.Taken,
  .int .i64 x.Amount,v2,v3]∧c2++(c3)=os
theorem Picture.RI {x:Picture}{v2:XV}{c2:List Obj}(h2:SlF cI 1 3 v2 x.In c2){v3:XV}{c3:List Obj}(h3:SlF cB 1 4 v3 x.Closed c3) : Picture.R x [.bool x.Taken,
  .int .i64 x.Amount,v2,v3] (c2++(c3)):=⟨v2,c2,v3,c3,h2,h3,rfl,rfl⟩
theorem Picture.RO:RepOk E.sz Picture.R Picture.cells 4 where
 len:=fun {x cs os} H=>by
  obtain ⟨v2,c2,v3,c3,h2,h3,rfl,rfl⟩:=H
  rfl
 flen:=fun _=>rfl
 one:=fun {x cs os} H=>by
  obtain ⟨v2,c2,v3,c3,h2,h3,rfl,rfl⟩:=H
  exact (qi rfl (qi rfl (qi (SlF.one h2) (qi (SlF.one h3) zk))))
 snap:=fun {x cs os h lo S} m H hS=>by
  obtain ⟨v2,c2,v3,c3,h2,h3,rfl,rfl⟩:=H
  have hS2:Sep h lo (c2++(c3++S)):=(by simpa only [List.append_assoc] using hS)
  exact (qj qea (qj qq (qj (SlF.snap h2 hS2 rfl (fun _=>rfl) (fun _=>rfl)) (qj (SlF.snap h3 (Sep.m1 hS2) rfl (fun _=>rfl) (fun _=>rfl)) q9))))
 cut:=fun {x cs os h lo n0 keep S} m H hS hge=>by
  obtain ⟨v2,c2,v3,c3,h2,h3,rfl,rfl⟩:=H
  have hS2:Sep h lo (c2++(c3++S)):=(by simpa only [List.append_assoc] using hS)
  exact (qj rfl (qj rfl (qj (SlF.cut h2 hS2 hge rfl (fun _=>rfl) (fun _=>rfl)) (qj (SlF.cut h3 (Sep.m1 hS2) hge rfl (fun _=>rfl) (fun _=>rfl)) q9))))
 free:=fun {x cs os} H=>by
  obtain ⟨v2,c2,v3,c3,h2,h3,rfl,rfl⟩:=H
  exact (qi rfl (qi rfl (qi (SlF.free1 h2) (qi (SlF.free1 h3) zk))))
 pf:=fun {x cs os} H=>by
  obtain ⟨v2,c2,v3,c3,h2,h3,rfl,rfl⟩:=H
  exact (jc (SlF.pf h2 (fun _=>rfl)) (SlF.pf h3 (fun _=>rfl)))
theorem qj7 {W:Nat→Bool}{h:Heap} (hW:∀ b,
  (geL h.length) b→W b=true) (a_0:List Bool) (b_1:List Bool) (r:Bool) (hF:qbx a_0 b_1=some r) : Ret E W 9 [lst cB a_0,
  lst cB b_1] h (fun v h'=>cut h.length h' E.sz false 9 v=some (.bool r)):=by
 refine Ret.of (fn:=x9) rfl (Run.of ?_)
 unfold qbx at hF
 have zf0:zh [lst cB a_0,lst cB b_1] 0=lst cB a_0:=rfl
 have zf1:zh [lst cB a_0,lst cB b_1] 1=lst cB b_1:=rfl
 generalize zh [lst cB a_0,lst cB b_1]=fr0 at zf0 zf1 ⊢
 have hS:Sep h (geL h.length) []:=Sep.nil h
 simp only [x9,qd,qc,qe,qa,q7n,zf0,z6,qb,z5,zf1,zf,ws,zc,B0,reduceIte,reduceEqDiff]
 refine zb (t:=(decide ((List.length a_0:Int)≠(List.length b_1:Int)))) (fun hc1=>?_) (fun hc1=>?_)
 ·rw [iteT hc1] at hF
  simp only [qd,qc,qe,qa,qz,B0,reduceIte,reduceEqDiff]
  have he:=qk hF
  subst he
  simp only [zl,B0,reduceIte,reduceEqDiff]
  exact rfl
 rw [iteF hc1] at hF
 simp only [zg,q7p,qd,qc,zf0,qe,z6,qb,z5,qa,B0,reduceIte,reduceEqDiff]
 obtain ⟨oc4,hX6,hk7⟩:=jp hF
 simp only [q8m]
 refine ko (σ:=Unit) a_0 (fun i2 x3 _=>qbj b_1 i2 x3 ) (fun s fr' h'=>fr' 0=lst cB a_0∧fr' 1=lst cB b_1∧Sep h' (geL h.length) ([])) hX6 ⟨zf0,
   zf1,hS⟩ (by simp only [B0,reduceIte,reduceEqDiff]) (by simp only [B0,reduceIte,
   reduceEqDiff]) (fun _ _ _ h=>h) rfl rfl (fun _ _ _ _ h=>h) (fun _ _ _ _ h=>h) (fun _ _ _ _ h=>h) (by decide) ?_ ?_
 ·rintro i2 x3 _ fr16 h17 hx21 ⟨f19,f20,hS18⟩ f22 f23 oc5 hF8 hr9 Q10 hN11 hB15 hK12 hR13 hE14
  unfold qbj at hF8
  simp only [q7v,qd,qc,f22,qe,qa,q6z,jd,f19,zr,qf,jo,B0,reduceIte,reduceEqDiff]
  refine qm (v := .ref (cB x3) 0) (kp hx21 rfl) ?_
  simp only [ze,B0,reduceIte,reduceEqDiff]
  refine qm (v := .bool x3) rfl ?_
  obtain ⟨x24,hx25,hF26⟩:=qg hF8
  simp only [f20,zr,qf,jo,B0,reduceIte,reduceEqDiff]
  refine qm (v := .ref (cB x24) 0) (k5 hx25 rfl) ?_
  simp only [ze,B0,reduceIte,reduceEqDiff]
  refine qm (v := .bool x24) rfl ?_
  simp only [qk4,qf,qiz,qs,zc,B0,reduceIte,reduceEqDiff]
  refine zb (t:=(!(x3 == x24))) (fun hc27=>?_) (fun hc27=>?_)
  ·rw [iteT hc27] at hF26
   simp only [qd,qc,qe,qa,qz,B0,reduceIte,reduceEqDiff]
   have e28:=qk hF26
   subst e28
   have ho29:=hr9 _ rfl
   have hk30:=hk7
   rw [ho29] at hk30
   dsimp only [jnO] at hk30
   apply hR13
   have he:=qk hk30
   subst he
   simp only [zl,B0,reduceIte,reduceEqDiff]
   exact rfl
  rw [iteF hc27] at hF26
  simp only [zg,qo,B0,reduceIte,reduceEqDiff]
  have e31:=qk hF26
  exact hN11 _ _ _ e31.symm ⟨f19,f20,hS18⟩ (f22) (f23)
 rintro _ fr33 h34 rfl ⟨f36,f37,hS35⟩
 dsimp only [jnO] at hk7
 unfold qf4 at hk7
 simp only [qd,qc,qe,qa,qz,B0,reduceIte,reduceEqDiff]
 have he:=qk hk7
 subst he
 simp only [zl,B0,reduceIte,reduceEqDiff]
 exact rfl
theorem qeo {W:Nat→Bool}{h:Heap} (hW:∀ b,
  (geL h.length) b→W b=true) (a_0:List Int) (b_1:List Int) (r:Bool) (hF:xk a_0 b_1=some r) : Ret E W 44 [lst cI a_0,
  lst cI b_1] h (fun v h'=>cut h.length h' E.sz false 9 v=some (.bool r)):=by
 refine Ret.of (fn:=x44) rfl (Run.of ?_)
 unfold xk at hF
 have zf0:zh [lst cI a_0,lst cI b_1] 0=lst cI a_0:=rfl
 have zf1:zh [lst cI a_0,lst cI b_1] 1=lst cI b_1:=rfl
 generalize zh [lst cI a_0,lst cI b_1]=fr0 at zf0 zf1 ⊢
 have hS:Sep h (geL h.length) []:=Sep.nil h
 simp only [x44,qd,qc,qe,qa,q3h,zf0,z6,qb,z5,zf1,zf,ws,zc,B0,reduceIte,reduceEqDiff]
 refine zb (t:=(decide ((List.length a_0:Int)≠(List.length b_1:Int)))) (fun hc1=>?_) (fun hc1=>?_)
 ·rw [iteT hc1] at hF
  simp only [qd,qc,qe,qa,qz,B0,reduceIte,reduceEqDiff]
  have he:=qk hF
  subst he
  simp only [zl,B0,reduceIte,reduceEqDiff]
  exact rfl
 rw [iteF hc1] at hF
 simp only [zg,q5f,qd,qc,zf0,qe,z6,qb,z5,qa,B0,reduceIte,reduceEqDiff]
 obtain ⟨oc4,hX6,hk7⟩:=jp hF
 simp only [q1c]
 refine ko (σ:=Unit) a_0 (fun i2 x3 _=>qaq b_1 i2 x3 ) (fun s fr' h'=>fr' 0=lst cI a_0∧fr' 1=lst cI b_1∧Sep h' (geL h.length) ([])) hX6 ⟨zf0,
   zf1,hS⟩ (by simp only [B0,reduceIte,reduceEqDiff]) (by simp only [B0,reduceIte,
   reduceEqDiff]) (fun _ _ _ h=>h) rfl rfl (fun _ _ _ _ h=>h) (fun _ _ _ _ h=>h) (fun _ _ _ _ h=>h) (by decide) ?_ ?_
 ·rintro i2 x3 _ fr16 h17 hx21 ⟨f19,f20,hS18⟩ f22 f23 oc5 hF8 hr9 Q10 hN11 hB15 hK12 hR13 hE14
  unfold qaq at hF8
  simp only [qzp,qd,qc,f22,qe,qa,q0w,jd,f19,zr,qf,jo,B0,reduceIte,reduceEqDiff]
  refine qm (v := .ref (cI x3) 0) (kp hx21 rfl) ?_
  simp only [ze,B0,reduceIte,reduceEqDiff]
  refine qm (v := .int .i64 x3) rfl ?_
  obtain ⟨x24,hx25,hF26⟩:=qg hF8
  simp only [f20,zr,qf,jo,B0,reduceIte,reduceEqDiff]
  refine qm (v := .ref (cI x24) 0) (k5 hx25 rfl) ?_
  simp only [ze,B0,reduceIte,reduceEqDiff]
  refine qm (v := .int .i64 x24) rfl ?_
  simp only [kn,qf,ws,qs,zc,B0,reduceIte,reduceEqDiff]
  refine zb (t:=(decide (x3≠x24))) (fun hc27=>?_) (fun hc27=>?_)
  ·rw [iteT hc27] at hF26
   simp only [qd,qc,qe,qa,qz,B0,reduceIte,reduceEqDiff]
   have e28:=qk hF26
   subst e28
   have ho29:=hr9 _ rfl
   have hk30:=hk7
   rw [ho29] at hk30
   dsimp only [jnO] at hk30
   apply hR13
   have he:=qk hk30
   subst he
   simp only [zl,B0,reduceIte,reduceEqDiff]
   exact rfl
  rw [iteF hc27] at hF26
  simp only [zg,qo,B0,reduceIte,reduceEqDiff]
  have e31:=qk hF26
  exact hN11 _ _ _ e31.symm ⟨f19,f20,hS18⟩ (f22) (f23)
 rintro _ fr33 h34 rfl ⟨f36,f37,hS35⟩
 dsimp only [jnO] at hk7
 unfold qgu at hk7
 simp only [qd,qc,qe,qa,qz,B0,reduceIte,reduceEqDiff]
 have he:=qk hk7
 subst he
 simp only [zl,B0,reduceIte,reduceEqDiff]
 exact rfl
theorem qd7 {W:Nat→Bool}{h:Heap} (hW:∀ b,
  (geL h.length) b→W b=true) (v_0:Snap) (v_1:Snap) (r:Bool) (hF:um v_0 v_1=some r) : Ret E W 10 [.agg [lst cI v_0.Amounts,lst Chan.cells v_0.Chans,
  lst Picture.cells v_0.Pictures,.int .i64 v_0.Sent,.int .i64 v_0.Total],.agg [lst cI v_1.Amounts,lst Chan.cells v_1.Chans,lst Picture.cells v_1.Pictures,
  .int .i64 v_1.Sent,.int .i64 v_1.Total]] h (fun v h'=>cut h.length h' E.sz false 9 v=some (.bool r)):=by
 refine Ret.of (fn:=x10) rfl (Run.of ?_)
 unfold um at hF
 have zf0:zh [.agg [lst cI v_0.Amounts,lst Chan.cells v_0.Chans,lst Picture.cells v_0.Pictures,.int .i64 v_0.Sent,.int .i64 v_0.Total],.agg [lst cI v_1.Amounts,
   lst Chan.cells v_1.Chans,lst Picture.cells v_1.Pictures,.int .i64 v_1.Sent,.int .i64 v_1.Total]] 0 = .agg [lst cI v_0.Amounts,lst Chan.cells v_0.Chans,
   lst Picture.cells v_0.Pictures,.int .i64 v_0.Sent,.int .i64 v_0.Total]:=rfl
 have zf1:zh [.agg [lst cI v_0.Amounts,lst Chan.cells v_0.Chans,lst Picture.cells v_0.Pictures,.int .i64 v_0.Sent,.int .i64 v_0.Total],.agg [lst cI v_1.Amounts,
   lst Chan.cells v_1.Chans,lst Picture.cells v_1.Pictures,.int .i64 v_1.Sent,.int .i64 v_1.Total]] 1 = .agg [lst cI v_1.Amounts,lst Chan.cells v_1.Chans,
   lst Picture.cells v_1.Pictures,.int .i64 v_1.Sent,.int .i64 v_1.Total]:=rfl
 generalize zh [.agg [lst cI v_0.Amounts,lst Chan.cells v_0.Chans,lst Picture.cells v_0.Pictures,.int .i64 v_0.Sent,.int .i64 v_0.Total],.agg [lst cI v_1.Amounts,
   lst Chan.cells v_1.Chans,lst Picture.cells v_1.Pictures,.int .i64 v_1.Sent,.int .i64 v_1.Total]]=fr0 at zf0 zf1 ⊢
 have hS:Sep h (geL h.length) []:=Sep.nil h
 simp only [x10,qd,qc,kh,zf0,B0,reduceIte,reduceEqDiff]
 refine jt (cs:=[lst cI v_0.Amounts,lst Chan.cells v_0.Chans,lst Picture.cells v_0.Pictures,.int .i64 v_0.Sent,
   .int .i64 v_0.Total]) hS rfl rfl rfl (fun b1 h2 hS3=>?_)
 simp only [kh,zf1,B0,reduceIte,reduceEqDiff]
 refine jt (cs:=[lst cI v_1.Amounts,lst Chan.cells v_1.Chans,lst Picture.cells v_1.Pictures,.int .i64 v_1.Sent,
   .int .i64 v_1.Total]) hS3 rfl rfl rfl (fun b5 h6 hS7=>?_)
 simp only [qe,qa,B0,reduceIte,reduceEqDiff]
 refine zw (Sep.m1 hS7) hW (by simp only [B0,reduceIte,reduceEqDiff]) (fun h9 hS10=>?_)
 refine zw hS10 hW (by simp only [B0,reduceIte,reduceEqDiff]) (fun h11 hS12=>?_)
 simp only [zo,qqx,qd,qc,qt,qb,Nat.reduceAdd,Nat.zero_add,Nat.add_zero,qr,qp,B0,reduceIte,reduceEqDiff]
 refine qh (v:=lst cI v_0.Amounts) rfl ?_
 simp only [qt,qb,Nat.reduceAdd,Nat.zero_add,Nat.add_zero,qr,qp,B0,reduceIte,reduceEqDiff]
 refine qh (v:=lst cI v_1.Amounts) rfl ?_
 obtain ⟨v13,hx14,hF15⟩:=qg hF
 simp only [zd,B0,reduceIte,reduceEqDiff]
 refine j5 rfl (qj zm (qj zm q9)) (qeo (fun b hb=>decide_eq_true hb) v_0.Amounts v_1.Amounts v13 hx14) ?_
 simp only [jz,qb,kf,qe,B0,reduceIte,reduceEqDiff]
 refine j0 6 (fun fr' h'=>Sep h' (geL h.length) ([])∧fr' 21 = .bool ((!v13)||(decide (v_0.Sent≠v_1.Sent)))∧fr' 2 = .ref [lst cI v_0.Amounts,
   lst Chan.cells v_0.Chans,lst Picture.cells v_0.Pictures,.int .i64 v_0.Sent,.int .i64 v_0.Total] 0∧fr' 3 = .ref [lst cI v_1.Amounts,lst Chan.cells v_1.Chans,
   lst Picture.cells v_1.Pictures,.int .i64 v_1.Sent,.int .i64 v_1.Total] 0) (fun Q16 hN17=>?_) ?_
 ·simp only [List.take_succ_cons,List.take_zero]
  simp only [ql (g:=15),B0,reduceIte,reduceEqDiff]
  refine zn (t:=(!v13)) (fun hg18=>?_) (fun hg18=>?_)
  ·simp only [hg18,ql (g:=15),jm,za,qb,zp,qa,qo,B0,reduceIte,reduceEqDiff]
   exact hN17 _ _ ⟨hS12,by rw [orT hg18]; simp only [B0,reduceIte,reduceEqDiff],rfl,rfl⟩
  ·simp only [hg18,ql (g:=15),qv,qt,qb,Nat.reduceAdd,Nat.zero_add,Nat.add_zero,qr,qp,B0,reduceIte,reduceEqDiff]
   refine qh (v := .int .i64 v_0.Sent) rfl ?_
   simp only [hg18,ql (g:=15),qv,qt,qb,Nat.reduceAdd,Nat.zero_add,Nat.add_zero,qr,qp,B0,reduceIte,reduceEqDiff]
   refine qh (v := .int .i64 v_1.Sent) rfl ?_
   simp only [hg18,ql (g:=15),qv,zf,qb,ws,za,zq,qa,qo,B0,reduceIte,reduceEqDiff]
   exact hN17 _ _ ⟨hS12,by rw [orF hg18]; simp only [B0,reduceIte,reduceEqDiff],rfl,rfl⟩
 rintro fr19 h23 ⟨hS24,f20,f21,f22⟩
 simp only [List.drop_succ_cons,List.drop_zero]
 simp only [f20,qe,B0,reduceIte,reduceEqDiff]
 refine j0 6 (fun fr' h'=>Sep h' (geL h.length) ([])∧fr' 28 = .bool (((!v13)||(decide (v_0.Sent≠v_1.Sent)))||(decide
   (v_0.Total≠v_1.Total)))∧fr' 2 = .ref [lst cI v_0.Amounts,lst Chan.cells v_0.Chans,lst Picture.cells v_0.Pictures,.int .i64 v_0.Sent,
   .int .i64 v_0.Total] 0∧fr' 3 = .ref [lst cI v_1.Amounts,lst Chan.cells v_1.Chans,lst Picture.cells v_1.Pictures,.int .i64 v_1.Sent,
   .int .i64 v_1.Total] 0) (fun Q25 hN26=>?_) ?_
 ·simp only [List.take_succ_cons,List.take_zero]
  simp only [ql (g:=22),B0,reduceIte,reduceEqDiff]
  refine zn (t:=((!v13)||(decide (v_0.Sent≠v_1.Sent)))) (fun hg27=>?_) (fun hg27=>?_)
  ·simp only [hg27,ql (g:=22),jm,za,qb,zp,qa,qo,B0,reduceIte,reduceEqDiff]
   exact hN26 _ _ ⟨hS24,by rw [orT hg27]; simp only [B0,reduceIte,reduceEqDiff],f21,f22⟩
  ·simp only [hg27,ql (g:=22),qv,f21,qt,qb,Nat.reduceAdd,Nat.zero_add,Nat.add_zero,qr,qp,B0,reduceIte,reduceEqDiff]
   refine qh (v := .int .i64 v_0.Total) rfl ?_
   simp only [hg27,ql (g:=22),qv,f22,qt,qb,Nat.reduceAdd,Nat.zero_add,Nat.add_zero,qr,qp,B0,reduceIte,reduceEqDiff]
   refine qh (v := .int .i64 v_1.Total) rfl ?_
   simp only [hg27,ql (g:=22),qv,zf,qb,ws,za,zq,qa,qo,B0,reduceIte,reduceEqDiff]
   exact hN26 _ _ ⟨hS24,by rw [orF hg27]; simp only [B0,reduceIte,reduceEqDiff],f21,f22⟩
 rintro fr28 h32 ⟨hS33,f29,f30,f31⟩
 simp only [List.drop_succ_cons,List.drop_zero]
 simp only [f29,qe,B0,reduceIte,reduceEqDiff]
 refine j0 8 (fun fr' h'=>Sep h' (geL h.length) ([])∧fr' 37 = .bool ((((!v13)||(decide (v_0.Sent≠v_1.Sent)))||(decide (v_0.Total≠v_1.Total)))||(decide
   ((List.length v_0.Chans:Int)≠(List.length v_1.Chans:Int))))∧fr' 2 = .ref [lst cI v_0.Amounts,lst Chan.cells v_0.Chans,lst Picture.cells v_0.Pictures,
   .int .i64 v_0.Sent,.int .i64 v_0.Total] 0∧fr' 3 = .ref [lst cI v_1.Amounts,lst Chan.cells v_1.Chans,lst Picture.cells v_1.Pictures,.int .i64 v_1.Sent,
   .int .i64 v_1.Total] 0) (fun Q34 hN35=>?_) ?_
 ·simp only [List.take_succ_cons,List.take_zero]
  simp only [ql (g:=29),B0,reduceIte,reduceEqDiff]
  refine zn (t:=(((!v13)||(decide (v_0.Sent≠v_1.Sent)))||(decide (v_0.Total≠v_1.Total)))) (fun hg36=>?_) (fun hg36=>?_)
  ·simp only [hg36,ql (g:=29),jm,za,qb,zp,qa,qo,B0,reduceIte,reduceEqDiff]
   exact hN35 _ _ ⟨hS33,by rw [orT hg36]; simp only [B0,reduceIte,reduceEqDiff],f30,f31⟩
  ·simp only [hg36,ql (g:=29),qv,f30,qt,qb,Nat.reduceAdd,Nat.zero_add,Nat.add_zero,qr,qp,B0,reduceIte,reduceEqDiff]
   refine qh (v:=lst Chan.cells v_0.Chans) rfl ?_
   simp only [hg36,ql (g:=29),qv,z6,qb,z5,f31,qt,Nat.reduceAdd,Nat.zero_add,Nat.add_zero,qr,qp,B0,reduceIte,
     reduceEqDiff]
   refine qh (v:=lst Chan.cells v_1.Chans) rfl ?_
   simp only [hg36,ql (g:=29),qv,z6,qb,z5,zf,ws,za,zq,qa,qo,B0,reduceIte,reduceEqDiff]
   exact hN35 _ _ ⟨hS33,by rw [orF hg36]; simp only [B0,reduceIte,reduceEqDiff],f30,f31⟩
 rintro fr37 h41 ⟨hS42,f38,f39,f40⟩
 simp only [List.drop_succ_cons,List.drop_zero]
 simp only [f38,qe,B0,reduceIte,reduceEqDiff]
 refine j0 8 (fun fr' h'=>Sep h' (geL h.length) ([])∧fr' 46 = .bool (((((!v13)||(decide (v_0.Sent≠v_1.Sent)))||(decide (v_0.Total≠v_1.Total)))||(decide
   ((List.length v_0.Chans:Int)≠(List.length v_1.Chans:Int))))||(decide ((List.length v_0.Pictures:Int) ≠
   (List.length v_1.Pictures:Int))))∧fr' 2 = .ref [lst cI v_0.Amounts,lst Chan.cells v_0.Chans,lst Picture.cells v_0.Pictures,.int .i64 v_0.Sent,
   .int .i64 v_0.Total] 0∧fr' 3 = .ref [lst cI v_1.Amounts,lst Chan.cells v_1.Chans,lst Picture.cells v_1.Pictures,.int .i64 v_1.Sent,
   .int .i64 v_1.Total] 0) (fun Q43 hN44=>?_) ?_
 ·simp only [List.take_succ_cons,List.take_zero]
  simp only [ql (g:=38),B0,reduceIte,reduceEqDiff]
  refine zn (t:=((((!v13)||(decide (v_0.Sent≠v_1.Sent)))||(decide (v_0.Total≠v_1.Total)))||(decide ((List.length v_0.Chans:Int) ≠
    (List.length v_1.Chans:Int))))) (fun hg45=>?_) (fun hg45=>?_)
  ·simp only [hg45,ql (g:=38),jm,za,qb,zp,qa,qo,B0,reduceIte,reduceEqDiff]
   exact hN44 _ _ ⟨hS42,by rw [orT hg45]; simp only [B0,reduceIte,reduceEqDiff],f39,f40⟩
  ·simp only [hg45,ql (g:=38),qv,f39,qt,qb,Nat.reduceAdd,Nat.zero_add,Nat.add_zero,qr,qp,B0,reduceIte,reduceEqDiff]
   refine qh (v:=lst Picture.cells v_0.Pictures) rfl ?_
   simp only [hg45,ql (g:=38),qv,z6,qb,z5,f40,qt,Nat.reduceAdd,Nat.zero_add,Nat.add_zero,qr,qp,B0,reduceIte,
     reduceEqDiff]
   refine qh (v:=lst Picture.cells v_1.Pictures) rfl ?_
   simp only [hg45,ql (g:=38),qv,z6,qb,z5,zf,ws,za,zq,qa,qo,B0,reduceIte,reduceEqDiff]
   exact hN44 _ _ ⟨hS42,by rw [orF hg45]; simp only [B0,reduceIte,reduceEqDiff],f39,f40⟩
 rintro fr46 h50 ⟨hS51,f47,f48,f49⟩
 simp only [List.drop_succ_cons,List.drop_zero]
 simp only [qa,f47,zc,B0,reduceIte,reduceEqDiff]
 refine zb (t:=(((((!v13)||(decide (v_0.Sent≠v_1.Sent)))||(decide (v_0.Total≠v_1.Total)))||(decide ((List.length v_0.Chans:Int) ≠
   (List.length v_1.Chans:Int))))||(decide ((List.length v_0.Pictures:Int)≠(List.length v_1.Pictures:Int))))) (fun hc52=>?_) (fun hc52=>?_)
 ·rw [iteT hc52] at hF15
  simp only [qd,qc,qe,qa,qz,B0,reduceIte,reduceEqDiff]
  have he:=qk hF15
  subst he
  simp only [zl,B0,reduceIte,reduceEqDiff]
  exact rfl
 rw [iteF hc52] at hF15
 simp only [zg,qsh,qd,qc,f48,qt,qb,Nat.reduceAdd,Nat.zero_add,Nat.add_zero,qr,qp,B0,reduceIte,reduceEqDiff]
 refine qh (v:=lst Chan.cells v_0.Chans) rfl ?_
 simp only [z6,qb,z5,qe,qa,B0,reduceIte,reduceEqDiff]
 obtain ⟨oc55,hX57,hk58⟩:=jp hF15
 simp only [q2w]
 refine qce (σ:=Unit) (fun i53 _=>qbi v_0 v_1 i53 ) (fun s fr' h'=>fr' 2 = .ref [lst cI v_0.Amounts,lst Chan.cells v_0.Chans,
   lst Picture.cells v_0.Pictures,.int .i64 v_0.Sent,.int .i64 v_0.Total] 0∧fr' 3 = .ref [lst cI v_1.Amounts,lst Chan.cells v_1.Chans,lst Picture.cells v_1.Pictures,
   .int .i64 v_1.Sent,.int .i64 v_1.Total] 0∧Sep h' (geL h.length) ([])) hX57 ⟨f48,f49,hS51⟩ (by simp only [B0,reduceIte,reduceEqDiff]) (by simp only [B0,reduceIte,
   reduceEqDiff]) (fun _ _ _ h=>h) rfl rfl (fun _ _ _ _ h=>h) (fun _ _ _ _ h=>h) (fun _ _ _ _ h=>h) (by decide) ?_ ?_
 ·rintro i53 _ fr67 h68 hx72 ⟨f70,f71,hS69⟩ f73 f74 oc56 hF59 hr60 Q61 hN62 hB66 hK63 hR64 hE65
  unfold qbi at hF59
  simp only [q2y,qd,qc,f73,qe,qa,q4k,jd,f70,zi,qf,Nat.reduceAdd,Nat.zero_add,Nat.add_zero,qr,ze,B0,
    reduceIte,reduceEqDiff]
  refine qm (v:=lst Chan.cells v_0.Chans) rfl ?_
  obtain ⟨x75,hx76,hF77⟩:=qg hF59
  simp only [zr,qf,jo,B0,reduceIte,reduceEqDiff]
  refine qm (v := .ref (Chan.cells x75) 0) (k5 hx76 rfl) ?_
  simp only [zi,qf,Nat.reduceAdd,Nat.zero_add,Nat.add_zero,qr,ze,B0,reduceIte,reduceEqDiff]
  refine qm (v := .int .i64 x75.From) rfl ?_
  simp only [f71,zi,qf,Nat.reduceAdd,Nat.zero_add,Nat.add_zero,qr,ze,B0,reduceIte,reduceEqDiff]
  refine qm (v:=lst Chan.cells v_1.Chans) rfl ?_
  obtain ⟨x78,hx79,hF80⟩:=qg hF77
  simp only [zr,qf,jo,B0,reduceIte,reduceEqDiff]
  refine qm (v := .ref (Chan.cells x78) 0) (k5 hx79 rfl) ?_
  simp only [zi,qf,Nat.reduceAdd,Nat.zero_add,Nat.add_zero,qr,ze,B0,reduceIte,reduceEqDiff]
  refine qm (v := .int .i64 x78.From) rfl ?_
  simp only [kn,qf,ws,zr,B0,reduceIte,reduceEqDiff]
  obtain ⟨v84,hx85,hF86⟩:=qg hF80
  refine wo 14 (fun fr' h'=>Sep h' (geL h.length) ([])∧fr' 80 = .bool v84∧fr' 2 = .ref [lst cI v_0.Amounts,lst Chan.cells v_0.Chans,lst Picture.cells v_0.Pictures,
    .int .i64 v_0.Sent,.int .i64 v_0.Total] 0∧fr' 3 = .ref [lst cI v_1.Amounts,lst Chan.cells v_1.Chans,lst Picture.cells v_1.Pictures,.int .i64 v_1.Sent,
    .int .i64 v_1.Total] 0∧fr' 5 = .int .i64 (i53:Int)∧fr' 49 = .int .i64 (List.length v_0.Chans:Int)∧fr' 50 = .int .i64 (i53:Int)) rfl (fun Q81 hN82=>?_) ?_
  ·simp only [List.take_succ_cons,List.take_zero]
   simp only [qn (g:=66),B0,reduceIte,reduceEqDiff]
   refine jf (t:=(decide (x75.From≠x78.From))) (fun hg83=>?_) (fun hg83=>?_)
   ·rw [iteT hg83] at hx85
    simp only [hg83,qn (g:=66),kr,z8,qf,zp,qs,qo,B0,reduceIte,reduceEqDiff]
    have e87:=qk hx85
    exact hN82 _ _ ⟨hS69,by rw [←e87]; simp only [B0,reduceIte,reduceEqDiff],f70,f71,rfl,f74,f73⟩
   ·rw [iteF hg83] at hx85
    simp only [hg83,qn (g:=66),q8,f70,zi,qf,Nat.reduceAdd,Nat.zero_add,Nat.add_zero,qr,ze,B0,reduceIte,reduceEqDiff]
    refine qm (v:=lst Chan.cells v_0.Chans) rfl ?_
    obtain ⟨x88,hx89,hF90⟩:=qg hx85
    simp only [hg83,qn (g:=66),q8,zr,qf,jo,B0,reduceIte,reduceEqDiff]
    refine qm (v := .ref (Chan.cells x88) 0) (k5 hx89 rfl) ?_
    simp only [hg83,qn (g:=66),q8,zi,qf,Nat.reduceAdd,Nat.zero_add,Nat.add_zero,qr,ze,B0,reduceIte,reduceEqDiff]
    refine qm (v := .int .i64 x88.To) rfl ?_
    simp only [hg83,qn (g:=66),q8,f71,zi,qf,Nat.reduceAdd,Nat.zero_add,Nat.add_zero,qr,ze,B0,reduceIte,reduceEqDiff]
    refine qm (v:=lst Chan.cells v_1.Chans) rfl ?_
    obtain ⟨x91,hx92,hF93⟩:=qg hF90
    simp only [hg83,qn (g:=66),q8,zr,qf,jo,B0,reduceIte,reduceEqDiff]
    refine qm (v := .ref (Chan.cells x91) 0) (k5 hx92 rfl) ?_
    simp only [hg83,qn (g:=66),q8,zi,qf,Nat.reduceAdd,Nat.zero_add,Nat.add_zero,qr,ze,B0,reduceIte,reduceEqDiff]
    refine qm (v := .int .i64 x91.To) rfl ?_
    simp only [hg83,qn (g:=66),q8,kn,qf,ws,z8,zq,qs,qo,B0,reduceIte,reduceEqDiff]
    have e94:=qk hF93
    exact hN82 _ _ ⟨hS69,by rw [←e94]; simp only [B0,reduceIte,reduceEqDiff],f70,f71,rfl,f74,f73⟩
  rintro fr95 h102 ⟨hS103,f96,f97,f98,f99,f100,f101⟩
  simp only [List.drop_succ_cons,List.drop_zero]
  simp only [f96,zr,qf,B0,reduceIte,reduceEqDiff]
  simp only [qn (g:=81),B0,reduceIte,reduceEqDiff]
  refine jf (t:=v84) (fun hg104=>?_) (fun hg104=>?_)
  ·rw [iteT hg104] at hF86
   simp only [hg104,qn (g:=81),kr,z8,qf,zp,qs,zc,qfs,qd,qc,qe,qa,qz,B0,
     reduceIte,reduceEqDiff]
   have e105:=qk hF86
   subst e105
   have ho106:=hr60 _ rfl
   have hk107:=hk58
   rw [ho106] at hk107
   dsimp only [jnO] at hk107
   apply hR64
   have he:=qk hk107
   subst he
   simp only [zl,B0,reduceIte,reduceEqDiff]
   exact rfl
  rw [iteF hg104] at hF86
  simp only [hg104,qn (g:=81),q8,f97,zi,qf,Nat.reduceAdd,Nat.zero_add,Nat.add_zero,qr,ze,B0,reduceIte,reduceEqDiff]
  refine qm (v:=lst Chan.cells v_0.Chans) rfl ?_
  obtain ⟨x108,hx109,hF110⟩:=qg hF86
  simp only [hg104,qn (g:=81),q8,f99,zr,qf,jo,B0,reduceIte,reduceEqDiff]
  refine qm (v := .ref (Chan.cells x108) 0) (k5 hx109 rfl) ?_
  simp only [hg104,qn (g:=81),q8,zi,qf,Nat.reduceAdd,Nat.zero_add,Nat.add_zero,qr,ze,B0,reduceIte,reduceEqDiff]
  refine qm (v:=lst cI x108.Way) rfl ?_
  simp only [hg104,qn (g:=81),q8,f98,zi,qf,Nat.reduceAdd,Nat.zero_add,Nat.add_zero,qr,ze,B0,reduceIte,reduceEqDiff]
  refine qm (v:=lst Chan.cells v_1.Chans) rfl ?_
  obtain ⟨x111,hx112,hF113⟩:=qg hF110
  simp only [hg104,qn (g:=81),q8,f99,zr,qf,jo,B0,reduceIte,reduceEqDiff]
  refine qm (v := .ref (Chan.cells x111) 0) (k5 hx112 rfl) ?_
  simp only [hg104,qn (g:=81),q8,zi,qf,Nat.reduceAdd,Nat.zero_add,Nat.add_zero,qr,ze,B0,reduceIte,reduceEqDiff]
  refine qm (v:=lst cI x111.Way) rfl ?_
  obtain ⟨v114,hx115,hF116⟩:=qg hF113
  simp only [hg104,qn (g:=81),q8,wu,B0,reduceIte,reduceEqDiff]
  refine qfp rfl (qj zm (qj zm q9)) (qeo (fun b hb=>decide_eq_true hb) x108.Way x111.Way v114 hx115) ?_
  simp only [hg104,qn (g:=81),q8,qdv,qf,kf,z8,zq,qs,zc,B0,reduceIte,reduceEqDiff]
  refine zb (t:=(!v114)) (fun hc117=>?_) (fun hc117=>?_)
  ·rw [iteT hc117] at hF116
   simp only [qd,qc,qe,qa,qz,B0,reduceIte,reduceEqDiff]
   have e118:=qk hF116
   subst e118
   have ho119:=hr60 _ rfl
   have hk120:=hk58
   rw [ho119] at hk120
   dsimp only [jnO] at hk120
   apply hR64
   have he:=qk hk120
   subst he
   simp only [zl,B0,reduceIte,reduceEqDiff]
   exact rfl
  rw [iteF hc117] at hF116
  simp only [zg,qo,B0,reduceIte,reduceEqDiff]
  have e121:=qk hF116
  exact hN62 _ _ _ e121.symm ⟨f97,f98,hS103⟩ (f101) (f100)
 rintro _ fr123 h124 rfl ⟨f126,f127,hS125⟩
 dsimp only [jnO] at hk58
 unfold qde at hk58
 simp only [qvi,qd,qc,f126,qt,qb,Nat.reduceAdd,Nat.zero_add,Nat.add_zero,qr,qp,B0,reduceIte,reduceEqDiff]
 refine qh (v:=lst Picture.cells v_0.Pictures) rfl ?_
 simp only [z6,qb,z5,qe,qa,B0,reduceIte,reduceEqDiff]
 obtain ⟨oc130,hX132,hk133⟩:=jp hk58
 simp only [qs4]
 refine qce (σ:=Unit) (fun i128 _=>qbk v_0 v_1 i128 ) (fun s fr' h'=>fr' 2 = .ref [lst cI v_0.Amounts,lst Chan.cells v_0.Chans,
   lst Picture.cells v_0.Pictures,.int .i64 v_0.Sent,.int .i64 v_0.Total] 0∧fr' 3 = .ref [lst cI v_1.Amounts,lst Chan.cells v_1.Chans,lst Picture.cells v_1.Pictures,
   .int .i64 v_1.Sent,.int .i64 v_1.Total] 0∧Sep h' (geL h.length) ([])) hX132 ⟨f126,f127,hS125⟩ (by simp only [B0,reduceIte,reduceEqDiff]) (by simp only [B0,reduceIte,
   reduceEqDiff]) (fun _ _ _ h=>h) rfl rfl (fun _ _ _ _ h=>h) (fun _ _ _ _ h=>h) (fun _ _ _ _ h=>h) (by decide) ?_ ?_
 ·rintro i128 _ fr142 h143 hx147 ⟨f145,f146,hS144⟩ f148 f149 oc131 hF134 hr135 Q136 hN137 hB141 hK138 hR139 hE140
  unfold qbk at hF134
  simp only [qxq,qd,qc,f148,qe,qa,q4c,f145,qt,qb,Nat.reduceAdd,Nat.zero_add,Nat.add_zero,qr,qp,B0,reduceIte,
    reduceEqDiff]
  refine qh (v:=lst Picture.cells v_0.Pictures) rfl ?_
  obtain ⟨x150,hx151,hF152⟩:=qg hF134
  simp only [qe,jg,B0,reduceIte,reduceEqDiff]
  refine qh (v := .ref (Picture.cells x150) 0) (k5 hx151 rfl) ?_
  simp only [qp,B0,reduceIte,reduceEqDiff]
  refine qh (v := .agg [.bool x150.Taken,.int .i64 x150.Amount,lst cI x150.In,lst cB x150.Closed]) rfl ?_
  simp only [jb,B0,reduceIte,reduceEqDiff]
  refine zv hS144 (fun b153 h154 hS155=>?_)
  simp only [zj,B0,reduceIte,reduceEqDiff]
  refine qx (us:=[.bool x150.Taken,.int .i64 x150.Amount,lst cI x150.In,lst cB x150.Closed]) rfl (cs':=[.bool x150.Taken,.int .i64 x150.Amount,lst cI x150.In,
    lst cB x150.Closed]) hS155 hW rfl rfl (Nat.le_of_ble_eq_true rfl) rfl (fun h157 hS158=>?_)
  simp only [qa,B0,reduceIte,reduceEqDiff]
  refine zw hS158 hW (by simp only [B0,reduceIte,reduceEqDiff]) (fun h159 hS160=>?_)
  simp only [zo,qxx,qd,qc,f146,qt,qb,Nat.reduceAdd,Nat.zero_add,Nat.add_zero,qr,qp,B0,reduceIte,reduceEqDiff]
  refine qh (v:=lst Picture.cells v_1.Pictures) rfl ?_
  obtain ⟨x161,hx162,hF163⟩:=qg hF152
  simp only [qe,jg,B0,reduceIte,reduceEqDiff]
  refine qh (v := .ref (Picture.cells x161) 0) (k5 hx162 rfl) ?_
  simp only [qp,B0,reduceIte,reduceEqDiff]
  refine qh (v := .agg [.bool x161.Taken,.int .i64 x161.Amount,lst cI x161.In,lst cB x161.Closed]) rfl ?_
  simp only [jb,B0,reduceIte,reduceEqDiff]
  refine zv hS160 (fun b164 h165 hS166=>?_)
  simp only [zj,B0,reduceIte,reduceEqDiff]
  refine qx (us:=[.bool x161.Taken,.int .i64 x161.Amount,lst cI x161.In,lst cB x161.Closed]) rfl (cs':=[.bool x161.Taken,.int .i64 x161.Amount,lst cI x161.In,
    lst cB x161.Closed]) hS166 hW rfl rfl (Nat.le_of_ble_eq_true rfl) rfl (fun h168 hS169=>?_)
  simp only [qa,B0,reduceIte,reduceEqDiff]
  refine zw hS169 hW (by simp only [B0,reduceIte,reduceEqDiff]) (fun h170 hS171=>?_)
  simp only [zo,qzd,qd,qc,qt,qb,Nat.reduceAdd,Nat.zero_add,Nat.add_zero,qr,qp,B0,reduceIte,reduceEqDiff]
  refine qh (v := .bool x150.Taken) rfl ?_
  simp only [qt,qb,Nat.reduceAdd,Nat.zero_add,Nat.add_zero,qr,qp,B0,reduceIte,reduceEqDiff]
  refine qh (v := .bool x161.Taken) rfl ?_
  simp only [qgn,qb,qiz,qe,B0,reduceIte,reduceEqDiff]
  refine j0 6 (fun fr' h'=>Sep h' (geL h.length) ([])∧fr' 125 = .bool ((!(x150.Taken == x161.Taken))||(decide
    (x150.Amount≠x161.Amount)))∧fr' 2 = .ref [lst cI v_0.Amounts,lst Chan.cells v_0.Chans,lst Picture.cells v_0.Pictures,.int .i64 v_0.Sent,
    .int .i64 v_0.Total] 0∧fr' 3 = .ref [lst cI v_1.Amounts,lst Chan.cells v_1.Chans,lst Picture.cells v_1.Pictures,.int .i64 v_1.Sent,
    .int .i64 v_1.Total] 0∧fr' 7 = .ref [.bool x150.Taken,.int .i64 x150.Amount,lst cI x150.In,lst cB x150.Closed] 0∧fr' 8 = .ref [.bool x161.Taken,
    .int .i64 x161.Amount,lst cI x161.In,
    lst cB x161.Closed] 0∧fr' 100 = .int .i64 (List.length v_0.Pictures:Int)∧fr' 101 = .int .i64 (i128:Int)) (fun Q172 hN173=>?_) ?_
  ·simp only [List.take_succ_cons,List.take_zero]
   simp only [ql (g:=119),B0,reduceIte,reduceEqDiff]
   refine zn (t:=(!(x150.Taken == x161.Taken))) (fun hg174=>?_) (fun hg174=>?_)
   ·simp only [hg174,ql (g:=119),jm,za,qb,zp,qa,qo,B0,reduceIte,reduceEqDiff]
    exact hN173 _ _ ⟨hS171,by rw [orT hg174]; simp only [B0,reduceIte,reduceEqDiff],f145,f146,rfl,rfl,f149,f148⟩
   ·simp only [hg174,ql (g:=119),qv,qt,qb,Nat.reduceAdd,Nat.zero_add,Nat.add_zero,qr,qp,B0,reduceIte,reduceEqDiff]
    refine qh (v := .int .i64 x150.Amount) rfl ?_
    simp only [hg174,ql (g:=119),qv,qt,qb,Nat.reduceAdd,Nat.zero_add,Nat.add_zero,qr,qp,B0,reduceIte,reduceEqDiff]
    refine qh (v := .int .i64 x161.Amount) rfl ?_
    simp only [hg174,ql (g:=119),qv,zf,qb,ws,za,zq,qa,qo,B0,reduceIte,reduceEqDiff]
    exact hN173 _ _ ⟨hS171,by rw [orF hg174]; simp only [B0,reduceIte,reduceEqDiff],f145,f146,rfl,rfl,f149,f148⟩
  rintro fr175 h183 ⟨hS184,f176,f177,f178,f179,f180,f181,f182⟩
  simp only [List.drop_succ_cons,List.drop_zero]
  simp only [f176,qe,B0,reduceIte,reduceEqDiff]
  obtain ⟨v188,hx189,hF190⟩:=qg hF163
  refine j0 7 (fun fr' h'=>Sep h' (geL h.length) ([])∧fr' 133 = .bool v188∧fr' 2 = .ref [lst cI v_0.Amounts,lst Chan.cells v_0.Chans,lst Picture.cells v_0.Pictures,
    .int .i64 v_0.Sent,.int .i64 v_0.Total] 0∧fr' 3 = .ref [lst cI v_1.Amounts,lst Chan.cells v_1.Chans,lst Picture.cells v_1.Pictures,.int .i64 v_1.Sent,
    .int .i64 v_1.Total] 0∧fr' 7 = .ref [.bool x150.Taken,.int .i64 x150.Amount,lst cI x150.In,lst cB x150.Closed] 0∧fr' 8 = .ref [.bool x161.Taken,
    .int .i64 x161.Amount,lst cI x161.In,
    lst cB x161.Closed] 0∧fr' 100 = .int .i64 (List.length v_0.Pictures:Int)∧fr' 101 = .int .i64 (i128:Int)) (fun Q185 hN186=>?_) ?_
  ·simp only [List.take_succ_cons,List.take_zero]
   simp only [ql (g:=126),B0,reduceIte,reduceEqDiff]
   refine zn (t:=((!(x150.Taken == x161.Taken))||(decide (x150.Amount≠x161.Amount)))) (fun hg187=>?_) (fun hg187=>?_)
   ·rw [iteT hg187] at hx189
    simp only [hg187,ql (g:=126),jm,za,qb,zp,qa,qo,B0,reduceIte,reduceEqDiff]
    have e191:=qk hx189
    exact hN186 _ _ ⟨hS184,by rw [←e191]; simp only [B0,reduceIte,reduceEqDiff],f177,f178,f179,f180,f181,f182⟩
   ·rw [iteF hg187] at hx189
    simp only [hg187,ql (g:=126),qv,f179,qt,qb,Nat.reduceAdd,Nat.zero_add,Nat.add_zero,qr,qp,B0,reduceIte,reduceEqDiff]
    refine qh (v:=lst cI x150.In) rfl ?_
    simp only [hg187,ql (g:=126),qv,f180,qt,qb,Nat.reduceAdd,Nat.zero_add,Nat.add_zero,qr,qp,B0,reduceIte,reduceEqDiff]
    refine qh (v:=lst cI x161.In) rfl ?_
    obtain ⟨v192,hx193,hF194⟩:=qg hx189
    simp only [hg187,ql (g:=126),qv,zd,B0,reduceIte,reduceEqDiff]
    refine j5 rfl (qj zm (qj zm q9)) (qeo (fun b hb=>decide_eq_true hb) x150.In x161.In v192 hx193) ?_
    simp only [hg187,ql (g:=126),qv,jz,qb,kf,za,zq,qa,qo,B0,reduceIte,reduceEqDiff]
    have e195:=qk hF194
    exact hN186 _ _ ⟨hS184,by rw [←e195]; simp only [B0,reduceIte,reduceEqDiff],f177,f178,f179,f180,f181,f182⟩
  rintro fr196 h204 ⟨hS205,f197,f198,f199,f200,f201,f202,f203⟩
  simp only [List.drop_succ_cons,List.drop_zero]
  simp only [f197,qe,B0,reduceIte,reduceEqDiff]
  obtain ⟨v209,hx210,hF211⟩:=qg hF190
  refine j0 7 (fun fr' h'=>Sep h' (geL h.length) ([])∧fr' 141 = .bool v209∧fr' 2 = .ref [lst cI v_0.Amounts,lst Chan.cells v_0.Chans,lst Picture.cells v_0.Pictures,
    .int .i64 v_0.Sent,.int .i64 v_0.Total] 0∧fr' 3 = .ref [lst cI v_1.Amounts,lst Chan.cells v_1.Chans,lst Picture.cells v_1.Pictures,.int .i64 v_1.Sent,
    .int .i64 v_1.Total] 0∧fr' 100 = .int .i64 (List.length v_0.Pictures:Int)∧fr' 101 = .int .i64 (i128:Int)) (fun Q206 hN207=>?_) ?_
  ·simp only [List.take_succ_cons,List.take_zero]
   simp only [ql (g:=134),B0,reduceIte,reduceEqDiff]
   refine zn (t:=v188) (fun hg208=>?_) (fun hg208=>?_)
   ·rw [iteT hg208] at hx210
    simp only [hg208,ql (g:=134),jm,za,qb,zp,qa,qo,B0,reduceIte,reduceEqDiff]
    have e212:=qk hx210
    exact hN207 _ _ ⟨hS205,by rw [←e212]; simp only [B0,reduceIte,reduceEqDiff],f198,f199,f202,f203⟩
   ·rw [iteF hg208] at hx210
    simp only [hg208,ql (g:=134),qv,f200,qt,qb,Nat.reduceAdd,Nat.zero_add,Nat.add_zero,qr,qp,B0,reduceIte,reduceEqDiff]
    refine qh (v:=lst cB x150.Closed) rfl ?_
    simp only [hg208,ql (g:=134),qv,f201,qt,qb,Nat.reduceAdd,Nat.zero_add,Nat.add_zero,qr,qp,B0,reduceIte,reduceEqDiff]
    refine qh (v:=lst cB x161.Closed) rfl ?_
    obtain ⟨v213,hx214,hF215⟩:=qg hx210
    simp only [hg208,ql (g:=134),qv,zd,B0,reduceIte,reduceEqDiff]
    refine j5 rfl (qj zm (qj zm q9)) (qj7 (fun b hb=>decide_eq_true hb) x150.Closed x161.Closed v213 hx214) ?_
    simp only [hg208,ql (g:=134),qv,jz,qb,kf,za,zq,qa,qo,B0,reduceIte,reduceEqDiff]
    have e216:=qk hF215
    exact hN207 _ _ ⟨hS205,by rw [←e216]; simp only [B0,reduceIte,reduceEqDiff],f198,f199,f202,f203⟩
  rintro fr217 h223 ⟨hS224,f218,f219,f220,f221,f222⟩
  simp only [List.drop_succ_cons,List.drop_zero]
  simp only [qa,f218,zc,B0,reduceIte,reduceEqDiff]
  refine zb (t:=v209) (fun hc225=>?_) (fun hc225=>?_)
  ·rw [iteT hc225] at hF211
   simp only [qd,qc,qe,qa,qz,B0,reduceIte,reduceEqDiff]
   have e226:=qk hF211
   subst e226
   have ho227:=hr135 _ rfl
   have hk228:=hk133
   rw [ho227] at hk228
   dsimp only [jnO] at hk228
   apply hR139
   have he:=qk hk228
   subst he
   simp only [zl,B0,reduceIte,reduceEqDiff]
   exact rfl
  rw [iteF hc225] at hF211
  simp only [zg,qo,B0,reduceIte,reduceEqDiff]
  have e229:=qk hF211
  exact hN137 _ _ _ e229.symm ⟨f219,f220,hS224⟩ (f222) (f221)
 rintro _ fr231 h232 rfl ⟨f234,f235,hS233⟩
 dsimp only [jnO] at hk133
 unfold qf3 at hk133
 simp only [qd,qc,qe,qa,qz,B0,reduceIte,reduceEqDiff]
 have he:=qk hk133
 subst he
 simp only [zl,B0,reduceIte,reduceEqDiff]
 exact rfl
theorem ug {W:Nat→Bool}{h:Heap} (hW:∀ b,
  (geL h.length) b→W b=true) (n_0:Int) (low_1:Int) (high_2:Int) (r:Bool) (hF:some (zx n_0 low_1 high_2)=some r) : Ret E W 39 [.int .i64 n_0,
  .int .i64 low_1,.int .i64 high_2] h (fun v h'=>cut h.length h' E.sz false 9 v=some (.bool r)):=by
 refine Ret.of (fn:=x39) rfl (Run.of ?_)
 unfold zx at hF
 have zf0:zh [.int .i64 n_0,.int .i64 low_1,.int .i64 high_2] 0 = .int .i64 n_0:=rfl
 have zf1:zh [.int .i64 n_0,.int .i64 low_1,.int .i64 high_2] 1 = .int .i64 low_1:=rfl
 have zf2:zh [.int .i64 n_0,.int .i64 low_1,.int .i64 high_2] 2 = .int .i64 high_2:=rfl
 generalize zh [.int .i64 n_0,.int .i64 low_1,.int .i64 high_2]=fr0 at zf0 zf1 zf2 ⊢
 have hS:Sep h (geL h.length) []:=Sep.nil h
 simp only [x39,qd,qc,qe,qa,q0o,zf0,zf1,zf,qb,qja,B0,reduceIte,reduceEqDiff]
 refine j0 4 (fun fr' h'=>Sep h' (geL h.length) ([])∧fr' 14 = .bool ((decide (low_1≤n_0))&&(decide (n_0≤high_2)))) (fun Q1 hN2=>?_) ?_
 ·simp only [List.take_succ_cons,List.take_zero]
  simp only [ql (g:=10),B0,reduceIte,reduceEqDiff]
  refine zn (t:=(decide (low_1≤n_0))) (fun hg3=>?_) (fun hg3=>?_)
  ·simp only [hg3,ql (g:=10),z4,zf0,qe,zf2,zf,qb,qpg,za,zp,qa,qo,B0,reduceIte,reduceEqDiff]
   exact hN2 _ _ ⟨hS,by rw [qb5 hg3]; simp only [B0,reduceIte,reduceEqDiff]⟩
  ·simp only [hg3,ql (g:=10),kw,za,qb,zq,qa,qo,B0,reduceIte,reduceEqDiff]
   exact hN2 _ _ ⟨hS,by rw [qb4 hg3]; simp only [B0,reduceIte,reduceEqDiff]⟩
 rintro fr4 h6 ⟨hS7,f5⟩
 simp only [List.drop_succ_cons,List.drop_zero]
 simp only [f5,qe,qa,qz,B0,reduceIte,reduceEqDiff]
 have he:=qk hF
 subst he
 simp only [zl,B0,reduceIte,reduceEqDiff]
 exact rfl
theorem qh7 {W:Nat→Bool}{h:Heap} (hW:∀ b,
  (geL h.length) b→W b=true) (procs_0:Int) (amount_1:Int) (r:Snap) (hF:wd procs_0 amount_1=some r) : Ret E W 40 [.int .i64 procs_0,
  .int .i64 amount_1] h (fun v h'=>∃ rv0_0 rc0_0 rv0_1 rc0_1 rv0_2 rc0_2,v = .agg [rv0_0,rv0_1,rv0_2,.int .i64 r.Sent,
  .int .i64 r.Total]∧SlF cI 1 3 rv0_0 r.Amounts rc0_0∧SlN Chan.R 3 74 rv0_1 r.Chans rc0_1∧SlN Picture.R 4 76 rv0_2 r.Pictures rc0_2∧Sep h' (geL h.length) (rc0_0 ++
  (rc0_1++(rc0_2++([]))))):=by
 refine Ret.of (fn:=x40) rfl (Run.of ?_)
 unfold wd at hF
 have zf0:zh [.int .i64 procs_0,.int .i64 amount_1] 0 = .int .i64 procs_0:=rfl
 have zf1:zh [.int .i64 procs_0,.int .i64 amount_1] 1 = .int .i64 amount_1:=rfl
 generalize zh [.int .i64 procs_0,.int .i64 amount_1]=fr0 at zf0 zf1 ⊢
 have hS:Sep h (geL h.length) []:=Sep.nil h
 simp only [x40,qd,qc,jb,B0,reduceIte,reduceEqDiff]
 refine zv hS (fun b1 h2 hS3=>?_)
 simp only [qa,qs9,qd,qc,zf0,qe,zf1,zf,qb,qln,run_build,evp,B0,reduceIte,reduceEqDiff]
 refine qh (v := .agg [.nil,.nil,.nil,.int .i64 0,.int .i64 (IntKind.wrap .i64 (procs_0*amount_1))]) rfl ?_
 simp only [jb,B0,reduceIte,reduceEqDiff]
 refine zv hS3 (fun b5 h6 hS7=>?_)
 simp only [zj,B0,reduceIte,reduceEqDiff]
 refine qx (us:=[.nil,.nil,.nil,.int .i64 0,.int .i64 (IntKind.wrap .i64 (procs_0*amount_1))]) rfl (cs':=[.nil,.nil,.nil,.int .i64 0,
   .int .i64 (IntKind.wrap .i64 (procs_0*amount_1))]) hS7 hW rfl rfl (Nat.le_of_ble_eq_true rfl) rfl (fun h9 hS10=>?_)
 simp only [qa,qvw,qd,qc,zf0,qe,B0,reduceIte,reduceEqDiff]
 obtain ⟨oc39,hX41,hk42⟩:=jp hF
 simp only [qr0]
 refine qce (σ:=Snap) (fun i37 s188=>qef procs_0 amount_1 i37 s188) (fun s fr' h'=>∃ v26 c27 v30 c31 v34 c35,
   fr' 0 = .int .i64 procs_0∧fr' 1 = .int .i64 amount_1∧fr' 4 = .ptr b1 0∧fr' 5 = .ptr b5 0∧SlF cI 1 3 v26 s.Amounts c27∧SlN Chan.R 3 74 v30 s.Chans c31∧SlN Picture.R 4 76 v34 s.Pictures c35∧Sep h'
   (geL h.length) ([Blk1 b1 [.nil,.nil,.nil,.int .i64 0,.int .i64 0] 30]++([Blk1 b5 [v26,v30,v34,.int .i64 s.Sent,
   .int .i64 s.Total] 30]++(c27++(c31++(c35++([]))))))) hX41 ⟨.nil,[],.nil,[],.nil,[],zf0,zf1,rfl,rfl,SlF.nil,SlN.nil,SlN.nil,
   ((Sep.m1 hS10) : Sep _ (geL h.length) ([Blk1 b1 [.nil,.nil,.nil,.int .i64 0,.int .i64 0] 30]++([Blk1 b5 [.nil,.nil,.nil,.int .i64 0,
   .int .i64 (IntKind.wrap .i64 (procs_0*amount_1))] 30]++([]))))⟩ (by simp only [B0,reduceIte,reduceEqDiff]) (by simp only [B0,reduceIte,
   reduceEqDiff]) (fun _ _ _ h=>h) rfl rfl (fun _ _ _ _ h=>h) (fun _ _ _ _ h=>h) (fun _ _ _ _ h=>h) (by decide) ?_ ?_
 ·rintro i37 s24 fr51 h52 hx58 ⟨v26,c27,v30,c31,v34,c35,f54,f55,f56,f57,hv28,hv32,hv36,hS53⟩ f59 f60 oc40 hF43 hr44 Q45 hN46 hB50 hK47 hR48 hE49
  unfold qef at hF43
  simp only [qun,qd,qc,f59,qe,qa,qxr,f57,qt,qb,Nat.reduceAdd,Nat.zero_add,Nat.add_zero,qu,qp,B0,reduceIte,
    reduceEqDiff]
  refine qh (v:=v26) ((jj (Sep.bk _ _ _ (Sep.m1 hS53))).trans rfl) ?_
  simp only [f55,qe,kx,evp,B0,reduceIte,reduceEqDiff]
  refine k8 (n:=1) (f:=cI) [amount_1] hS53 rfl rfl (fun v61 c62 h63 hv64 hS65=>?_)
  simp only [xh,B0,reduceIte,reduceEqDiff]
  obtain ⟨l67,hx68,hF69⟩:=qg hF43
  refine xw (f:=cI) hv28 (Sep.m3 hS65) hW (fun _=>rfl) (fun _=>rfl) (SlF.first hv64 hS65 (fun _=>rfl)) hx68 (fun v70 c71 h72 hv73 hS74=>?_)
  simp only [f57,qt,qb,Nat.reduceAdd,Nat.zero_add,Nat.add_zero,qu,zj,B0,reduceIte,reduceEqDiff]
  refine qx (us:=[v70]) (j6 (SlF.one hv73)) (cs':=[v70,v30,v34,.int .i64 s24.Sent,
    .int .i64 s24.Total]) (Sep.m3 hS74) hW rfl (qi (SlF.one hv73) zk) (Nat.le_of_ble_eq_true rfl) rfl (fun h76 hS77=>?_)
  simp only [qa,q5i,qd,jd,f57,zi,qf,Nat.reduceAdd,Nat.zero_add,Nat.add_zero,qu,ze,B0,reduceIte,reduceEqDiff]
  refine qm (v:=v34) ((jj (Sep.bk _ _ _ hS77)).trans rfl) ?_
  obtain ⟨l78,hx79,hF80⟩:=qg hF69
  simp only [f54,zr,qf,qkn,B0,reduceIte,reduceEqDiff]
  refine qgb (f:=cI) (z:=(0:Int)) hS77 hx79 rfl (fun v81 c82 h83 hv84 hS85=>?_)
  obtain ⟨l87,hx88,hF89⟩:=qg hF80
  simp only [f54,zr,qf,qkn,B0,reduceIte,reduceEqDiff]
  refine qgb (f:=cB) (z:=false) hS85 hx88 rfl (fun v90 c91 h92 hv93 hS94=>?_)
  simp only [qic,evp,B0,reduceIte,reduceEqDiff]
  refine qm (v := .agg [.bool false,.int .i64 0,v81,v90]) (qdo (qat (us:=[v81]) (vs:=[.bool false,.int .i64 0,v81,
    .nil]) (j6 (SlF.one hv84)) rfl (Nat.le_of_ble_eq_true rfl) (qi (SlF.one hv84) zk) rfl (qat (us:=[v90]) (vs:=[.bool false,.int .i64 0,v81,
    v90]) (j6 (SlF.one hv93)) rfl (Nat.le_of_ble_eq_true rfl) (qi (SlF.one hv93) zk) rfl qeg))) ?_
  simp only [u9,evp,B0,reduceIte,reduceEqDiff]
  refine qiq (R:=Picture.R) (n:=4) (cs:=[.bool false,.int .i64 0,v81,
    v90]) (os:=c82++(c91)) (Sep.bi2 (c1:=c82) (c2:=c91) (Sep.m1 hS94)) (qat (us:=[.bool false,.int .i64 0,v81,v90]) (vs:=[.bool false,.int .i64 0,v81,
    v90]) rfl rfl (Nat.le_of_ble_eq_true rfl) (qi rfl (qi rfl (qi (SlF.one hv84) (qi (SlF.one hv93) zk)))) rfl qeg) (Picture.RI (x :=
    (Picture.mk false 0 l78 l87)) hv84 hv93) rfl (fun v96 c97 h98 hv99 hS100=>?_)
  simp only [qnq,B0,reduceIte,reduceEqDiff]
  obtain ⟨l102,hx103,hF104⟩:=qg hF89
  refine qk9 (R:=Picture.R) (c:=c35) hv36 hv99 (Sep.m6 hS100) hW Picture.RO.len Picture.RO.one hx103 (fun v105 c106 h107 hv108 hS109=>?_)
  simp only [f57,zi,qf,Nat.reduceAdd,Nat.zero_add,Nat.add_zero,qu,xj,B0,reduceIte,reduceEqDiff]
  refine qa6 (us:=[v105]) (j6 (SlN.one hv108)) (cs':=[v70,v30,v105,.int .i64 s24.Sent,
    .int .i64 s24.Total]) (Sep.m1 hS109) hW rfl (qi (SlN.one hv108) zk) (Nat.le_of_ble_eq_true rfl) rfl (fun h111 hS112=>?_)
  simp only [qs,q1p,qd,qc,f54,qe,qa,B0,reduceIte,reduceEqDiff]
  obtain ⟨oc125,hX127,hk128⟩:=jp hF104
  simp only [q4s]
  refine qce (σ:=Snap) (fun i123 s170=>qej i37 l67 l102 i123 s170) (fun s fr' h'=>∃ v120 c121,
    fr' 0 = .int .i64 procs_0∧fr' 1 = .int .i64 amount_1∧fr' 4 = .ptr b1 0∧fr' 5 = .ptr b5 0∧fr' 6 = .int .i64
    (i37:Int)∧fr' 12 = .int .i64 procs_0∧fr' 13 = .int .i64 (i37:Int)∧SlN Chan.R 3 74 v120 s.Chans c121∧Sep h' (geL h.length) ([Blk1 b1 [.nil,.nil,.nil,
    .int .i64 0,.int .i64 0] 30]++([Blk1 b5 [v70,v120,v105,.int .i64 s.Sent,.int .i64 s.Total] 30]++(c71++(c121++(c106++([]))))))) hX127 ⟨v30,c31,f54,f55,
    f56,f57,rfl,f60,f59,hv32,(Sep.m4 (Sep.m3 (Sep.m3 (Sep.m4 (Sep.m1 (Sep.dc (Sep.m3 hS112)))))))⟩ (by simp only [B0,reduceIte,reduceEqDiff]) (by simp only [B0,
    reduceIte,reduceEqDiff]) (fun _ _ _ h=>h) rfl rfl (fun _ _ _ _ h=>h) (fun _ _ _ _ h=>h) (fun _ _ _ _ h=>h) (by decide) ?_ ?_
  ·rintro i123 s118 fr137 h138 hx147 ⟨v120,c121,f140,f141,f142,f143,f144,f145,f146,hv122,hS139⟩ f148 f149 oc126 hF129 hr130 Q131 hN132 hB136 hK133 hR134 hE135
   unfold qej at hF129
   simp only [q4g,qd,qc,f148,qe,qa,q0c,f144,zf,qb,ws,qzn,zc,B0,reduceIte,reduceEqDiff]
   refine zb (t:=(decide ((i123:Int)≠(i37:Int)))) (fun hc150=>?_) (fun hc150=>?_)
   ·rw [iteT hc150] at hF129
    simp only [q39,qc,f143,qt,qb,Nat.reduceAdd,Nat.zero_add,Nat.add_zero,qu,qp,B0,reduceIte,reduceEqDiff]
    refine qh (v:=v120) ((jj (Sep.bk _ _ _ (Sep.m1 hS139))).trans rfl) ?_
    simp only [f144,qe,run_build,evp,B0,reduceIte,reduceEqDiff]
    refine qh (v := .agg [.int .i64 (i37:Int),.int .i64 (i123:Int),.nil]) rfl ?_
    simp only [kx,evp,B0,reduceIte,reduceEqDiff]
    refine qal (R:=Chan.R) (n:=3) (cs:=[.int .i64 (i37:Int),.int .i64 (i123:Int),.nil]) (os:=[]) (Sep.bi1 (c1:=[]) (S:=([Blk1 b1 [.nil,.nil,.nil,
      .int .i64 0,.int .i64 0] 30]++([Blk1 b5 [v70,v120,v105,.int .i64 s118.Sent,
      .int .i64 s118.Total] 30]++(c71++(c121++(c106++([]))))))) (hS139:Sep _ (geL h.length) ([Blk1 b1 [.nil,.nil,.nil,.int .i64 0,
      .int .i64 0] 30]++([Blk1 b5 [v70,v120,v105,.int .i64 s118.Sent,
      .int .i64 s118.Total] 30]++(c71++(c121++(c106++([])))))))) rfl (Chan.RI (x:=(Chan.mk (i37:Int) (i123:Int) [])) SlF.nil) rfl
      (fun v151 c152 h153 hv154 hS155=>?_)
    simp only [xh,B0,reduceIte,reduceEqDiff]
    obtain ⟨l157,hx158,hF159⟩:=qg hF129
    refine qcz (R:=Chan.R) (c:=c121) hv122 hv154 (Sep.m4 hS155) hW Chan.RO.len Chan.RO.one hx158 (fun v160 c161 h162 hv163 hS164=>?_)
    simp only [f143,qt,qb,Nat.reduceAdd,Nat.zero_add,Nat.add_zero,qu,zj,B0,reduceIte,reduceEqDiff]
    refine qx (us:=[v160]) (j6 (SlN.one hv163)) (cs':=[v70,v160,v105,.int .i64 s118.Sent,
      .int .i64 s118.Total]) (Sep.m2 hS164) hW rfl (qi (SlN.one hv163) zk) (Nat.le_of_ble_eq_true rfl) rfl (fun h166 hS167=>?_)
    simp only [qa,qo,B0,reduceIte,reduceEqDiff]
    have e168:=qk hF159
    exact hN132 _ _ _ e168.symm ⟨v160,c161,f140,f141,f142,f143,f144,f145,f146,hv163,(Sep.m4 (Sep.m3 (Sep.m4 (Sep.m2 (Sep.m4 hS167)))))⟩ (f148) (f149)
   rw [iteF hc150] at hF129
   simp only [zg,qo,B0,reduceIte,reduceEqDiff]
   have e169:=qk hF129
   exact hN132 _ _ _ e169.symm ⟨v120,c121,f140,f141,f142,f143,f144,f145,f146,hv122,(Sep.m4 (Sep.m4 (Sep.m4 (Sep.m4 (Sep.m4 hS139)))))⟩ (f148) (f149)
  rintro s171 fr176 h177 rfl ⟨v173,c174,f179,f180,f181,f182,f183,f184,f185,hv175,hS178⟩
  dsimp only [jnO] at hk128
  unfold qhe at hk128
  simp only [qo,B0,reduceIte,reduceEqDiff]
  have e186:=qk hk128
  exact hN46 _ _ _ e186.symm ⟨v70,c71,v173,c174,v105,c106,f179,f180,f181,f182,hv73,hv175,hv108,(Sep.m4 (Sep.m4 (Sep.m4 (Sep.m4 (Sep.m4 hS178)))))⟩ (f185) (f184)
 rintro s189 fr202 h203 rfl ⟨v191,c192,v195,c196,v199,c200,f205,f206,f207,f208,hv193,hv197,hv201,hS204⟩
 dsimp only [jnO] at hk42
 unfold qhc at hk42
 simp only [qd,qc,f208,qp,B0,reduceIte,reduceEqDiff]
 refine qh (v := .agg [v191,v195,v199,.int .i64 s189.Sent,.int .i64 s189.Total]) ((z0 (Sep.bk _ _ _ (Sep.m1 hS204))).trans rfl) ?_
 simp only [f207,zj,B0,reduceIte,reduceEqDiff]
 refine qx (us:=[v191,v195,v199,.int .i64 s189.Sent,.int .i64 s189.Total]) rfl (cs':=[v191,v195,v199,.int .i64 s189.Sent,
   .int .i64 s189.Total]) hS204 hW rfl (qi (SlF.one hv193) (qi (SlN.one hv197) (qi (SlN.one hv201) (qi rfl (qi rfl zk))))) (Nat.le_of_ble_eq_true rfl) rfl
   (fun h209 hS210=>?_)
 simp only [qa,qz,B0,reduceIte,reduceEqDiff]
 have he:=qk hk42
 subst he
 refine ua (bb:=b1) (oo:=0) (v := .agg [v191,v195,v199,.int .i64 s189.Sent,.int .i64 s189.Total]) (by simp only [f207,B0,reduceIte,
   reduceEqDiff]) ((z0 (Sep.bk _ _ _ hS210)).trans rfl) ?_
 exact ⟨v191,c192,v195,c196,v199,c200,by first | trivial | rfl,hv193,hv197,hv201,(Sep.m2 (Sep.m2 (Sep.m2 (Sep.dc ((Sep.dc (hS210)))))))⟩
end Go.Proofs.Ytpkiieniipenjaa.X
namespace Go.Proofs.Ytpkiieniipenjaa.X
open Go
open Nat (reduceEqDiff)
theorem qf2 {W:Nat→Bool}{h:Heap} (hW:∀ b,
  (geL h.length) b→W b=true) (s_0:Snap) (r:Int) (hF:xe s_0=some r) : Ret E W 46 [.agg [lst cI s_0.Amounts,lst Chan.cells s_0.Chans,
  lst Picture.cells s_0.Pictures,.int .i64 s_0.Sent,.int .i64 s_0.Total]] h (fun v h'=>cut h.length h' E.sz false 9 v=some (.int .i64 r)):=by
 refine Ret.of (fn:=x46) rfl (Run.of ?_)
 unfold xe at hF
 have zf0:zh [.agg [lst cI s_0.Amounts,lst Chan.cells s_0.Chans,lst Picture.cells s_0.Pictures,.int .i64 s_0.Sent,.int .i64 s_0.Total]] 0 = .agg [lst cI s_0.Amounts,
   lst Chan.cells s_0.Chans,lst Picture.cells s_0.Pictures,.int .i64 s_0.Sent,.int .i64 s_0.Total]:=rfl
 generalize zh [.agg [lst cI s_0.Amounts,lst Chan.cells s_0.Chans,lst Picture.cells s_0.Pictures,.int .i64 s_0.Sent,.int .i64 s_0.Total]]=fr0 at zf0 ⊢
 have hS:Sep h (geL h.length) []:=Sep.nil h
 simp only [x46,qd,qc,kh,zf0,B0,reduceIte,reduceEqDiff]
 refine jt (cs:=[lst cI s_0.Amounts,lst Chan.cells s_0.Chans,lst Picture.cells s_0.Pictures,.int .i64 s_0.Sent,
   .int .i64 s_0.Total]) hS rfl rfl rfl (fun b1 h2 hS3=>?_)
 simp only [qe,qa,B0,reduceIte,reduceEqDiff]
 refine zw hS3 hW (by simp only [B0,reduceIte,reduceEqDiff]) (fun h5 hS6=>?_)
 simp only [zo,qtl,qd,qc,qe,qa,q0l,qt,qb,Nat.reduceAdd,Nat.zero_add,Nat.add_zero,qr,qp,B0,reduceIte,
   reduceEqDiff]
 refine qh (v:=lst Chan.cells s_0.Chans) rfl ?_
 simp only [z6,qb,z5,qe,qa,B0,reduceIte,reduceEqDiff]
 obtain ⟨oc11,hX13,hk14⟩:=jp hF
 simp only [q1v]
 refine ko (σ:=Int) s_0.Chans (fun i9 x10 s79=>wm i9 x10 s79) (fun s fr' h'=>fr' 3 = .int .i64 s∧fr' 9=lst Chan.cells s_0.Chans∧Sep h'
   (geL h.length) ([])) hX13 ⟨rfl,rfl,hS6⟩ (by simp only [B0,reduceIte,reduceEqDiff]) (by simp only [B0,reduceIte,
   reduceEqDiff]) (fun _ _ _ h=>h) rfl rfl (fun _ _ _ _ h=>h) (fun _ _ _ _ h=>h) (fun _ _ _ _ h=>h) (by decide) ?_ ?_
 ·rintro i9 x10 s8 fr23 h24 hx28 ⟨f26,f27,hS25⟩ f29 f30 oc12 hF15 hr16 Q17 hN18 hB22 hK19 hR20 hE21
  unfold wm at hF15
  simp only [qz0,qd,qc,f27,f29,jg,B0,reduceIte,reduceEqDiff]
  refine qh (v := .ref (Chan.cells x10) 0) (kp hx28 rfl) ?_
  simp only [qp,B0,reduceIte,reduceEqDiff]
  refine qh (v := .agg [.int .i64 x10.From,.int .i64 x10.To,lst cI x10.Way]) rfl ?_
  simp only [jb,B0,reduceIte,reduceEqDiff]
  refine zv hS25 (fun b31 h32 hS33=>?_)
  simp only [zj,B0,reduceIte,reduceEqDiff]
  refine qx (us:=[.int .i64 x10.From,.int .i64 x10.To,lst cI x10.Way]) rfl (cs':=[.int .i64 x10.From,.int .i64 x10.To,
    lst cI x10.Way]) hS33 hW rfl rfl (Nat.le_of_ble_eq_true rfl) rfl (fun h35 hS36=>?_)
  simp only [qa,B0,reduceIte,reduceEqDiff]
  refine zw hS36 hW (by simp only [B0,reduceIte,reduceEqDiff]) (fun h37 hS38=>?_)
  simp only [zo,q14,qd,qc,qt,qb,Nat.reduceAdd,Nat.zero_add,Nat.add_zero,qr,qp,B0,reduceIte,reduceEqDiff]
  refine qh (v:=lst cI x10.Way) rfl ?_
  simp only [z6,qb,z5,qe,qa,B0,reduceIte,reduceEqDiff]
  obtain ⟨oc43,hX45,hk46⟩:=jp hF15
  simp only [qz6]
  refine ko (σ:=Int) x10.Way (fun i41 x42 s67=>yd i41 x42 s67)
    (fun s fr' h'=>fr' 3 = .int .i64 s∧fr' 9=lst Chan.cells s_0.Chans∧fr' 10 = .int .i64 (List.length s_0.Chans:Int)∧fr' 11 = .int .i64
    (i9:Int)∧fr' 16=lst cI x10.Way∧Sep h' (geL h.length) ([])) hX45 ⟨f26,f27,f30,f29,rfl,hS38⟩ (by simp only [B0,reduceIte,reduceEqDiff]) (by simp only [B0,
    reduceIte,reduceEqDiff]) (fun _ _ _ h=>h) rfl rfl (fun _ _ _ _ h=>h) (fun _ _ _ _ h=>h) (fun _ _ _ _ h=>h) (by decide) ?_ ?_
  ·rintro i41 x42 s40 fr55 h56 hx63 ⟨f58,f59,f60,f61,f62,hS57⟩ f64 f65 oc44 hF47 hr48 Q49 hN50 hB54 hK51 hR52 hE53
   unfold yd at hF47
   simp only [q1q,qd,qc,f62,f64,jg,B0,reduceIte,reduceEqDiff]
   refine qh (v := .ref (cI x42) 0) (kp hx63 rfl) ?_
   simp only [qp,B0,reduceIte,reduceEqDiff]
   refine qh (v := .int .i64 x42) rfl ?_
   simp only [qe,qa,q1z,qc,f58,zf,qb,yz,qo,B0,reduceIte,reduceEqDiff]
   have e66:=qk hF47
   exact hN50 _ _ _ e66.symm ⟨rfl,f59,f60,f61,f62,hS57⟩ (f64) (f65)
  rintro s68 fr69 h70 rfl ⟨f72,f73,f74,f75,f76,hS71⟩
  dsimp only [jnO] at hk46
  unfold qfr at hk46
  simp only [qo,B0,reduceIte,reduceEqDiff]
  have e77:=qk hk46
  exact hN18 _ _ _ e77.symm ⟨f72,f73,hS71⟩ (f75) (f74)
 rintro s80 fr81 h82 rfl ⟨f84,f85,hS83⟩
 dsimp only [jnO] at hk14
 unfold qc5 at hk14
 simp only [qd,qc,f84,qe,qa,qz,B0,reduceIte,reduceEqDiff]
 have he:=qk hk14
 subst he
 simp only [zl,B0,reduceIte,reduceEqDiff]
 exact rfl
theorem qiw {W:Nat→Bool}{h:Heap} (hW:∀ b,
  (geL h.length) b→W b=true) (s_0:List Bool) (v_1:Bool) (r:Int) (hF:qbh s_0 v_1=some r) : Ret E W 78 [lst cB s_0,
  .bool v_1] h (fun v h'=>cut h.length h' E.sz false 9 v=some (.int .i64 r)):=by
 refine Ret.of (fn:=x78) rfl (Run.of ?_)
 unfold qbh at hF
 have zf0:zh [lst cB s_0,.bool v_1] 0=lst cB s_0:=rfl
 have zf1:zh [lst cB s_0,.bool v_1] 1 = .bool v_1:=rfl
 generalize zh [lst cB s_0,.bool v_1]=fr0 at zf0 zf1 ⊢
 have hS:Sep h (geL h.length) []:=Sep.nil h
 simp only [x78,qd,qc,qe,qa,q3u,zf0,z6,qb,z5,B0,reduceIte,reduceEqDiff]
 obtain ⟨oc3,hX5,hk6⟩:=jp hF
 simp only [q0z]
 refine ko (σ:=Unit) s_0 (fun i1 x2 _=>ue v_1 i1 x2 ) (fun s fr' h'=>fr' 0=lst cB s_0∧fr' 1 = .bool v_1∧Sep h' (geL h.length) ([])) hX5 ⟨zf0,
   zf1,hS⟩ (by simp only [B0,reduceIte,reduceEqDiff]) (by simp only [B0,reduceIte,
   reduceEqDiff]) (fun _ _ _ h=>h) rfl rfl (fun _ _ _ _ h=>h) (fun _ _ _ _ h=>h) (fun _ _ _ _ h=>h) (by decide) ?_ ?_
 ·rintro i1 x2 _ fr15 h16 hx20 ⟨f18,f19,hS17⟩ f21 f22 oc4 hF7 hr8 Q9 hN10 hB14 hK11 hR12 hE13
  unfold ue at hF7
  simp only [q4n,qd,qc,f21,qe,qa,q09,f19,f18,jg,B0,reduceIte,reduceEqDiff]
  refine qh (v := .ref (cB x2) 0) (kp hx20 rfl) ?_
  simp only [qp,B0,reduceIte,reduceEqDiff]
  refine qh (v := .bool x2) rfl ?_
  simp only [qgn,qb,qi8,qa,q2s,zc,B0,reduceIte,reduceEqDiff]
  refine zb (t:=(v_1 == x2)) (fun hc23=>?_) (fun hc23=>?_)
  ·rw [iteT hc23] at hF7
   simp only [qd,qc,qe,qa,qz,B0,reduceIte,reduceEqDiff]
   have e24:=qk hF7
   subst e24
   have ho25:=hr8 _ rfl
   have hk26:=hk6
   rw [ho25] at hk26
   dsimp only [jnO] at hk26
   apply hR12
   have he:=qk hk26
   subst he
   simp only [zl,B0,reduceIte,reduceEqDiff]
   exact rfl
  rw [iteF hc23] at hF7
  simp only [zg,qo,B0,reduceIte,reduceEqDiff]
  have e27:=qk hF7
  exact hN10 _ _ _ e27.symm ⟨f18,f19,hS17⟩ (f21) (f22)
 rintro _ fr29 h30 rfl ⟨f32,f33,hS31⟩
 dsimp only [jnO] at hk6
 unfold qei at hk6
 simp only [qd,qc,qe,qa,qz,B0,reduceIte,reduceEqDiff]
 have he:=qk hk6
 subst he
 simp only [zl,B0,reduceIte,reduceEqDiff]
 exact rfl
theorem qdp {W:Nat→Bool}{h:Heap} (hW:∀ b,
  (geL h.length) b→W b=true) (s_0:List Bool) (v_1:Bool) (r:Bool) (hF:y9 s_0 v_1=some r) : Ret E W 47 [lst cB s_0,
  .bool v_1] h (fun v h'=>cut h.length h' E.sz false 9 v=some (.bool r)):=by
 refine Ret.of (fn:=x47) rfl (Run.of ?_)
 unfold y9 at hF
 have zf0:zh [lst cB s_0,.bool v_1] 0=lst cB s_0:=rfl
 have zf1:zh [lst cB s_0,.bool v_1] 1 = .bool v_1:=rfl
 generalize zh [lst cB s_0,.bool v_1]=fr0 at zf0 zf1 ⊢
 have hS:Sep h (geL h.length) []:=Sep.nil h
 obtain ⟨v1,hx2,hF3⟩:=qg hF
 simp only [x47,qd,qc,qe,qa,qzt,zf0,zf1,zd,B0,reduceIte,reduceEqDiff]
 refine j5 rfl (qj zm (qj qea q9)) (qiw (fun b hb=>decide_eq_true hb) s_0 v_1 v1 hx2) ?_
 simp only [zf,qb,qja,qe,qa,qz,B0,reduceIte,reduceEqDiff]
 have he:=qk hF3
 subst he
 simp only [zl,B0,reduceIte,reduceEqDiff]
 exact rfl
theorem qhn {W:Nat→Bool}{h:Heap} (hW:∀ b,
  (geL h.length) b→W b=true) (s_0:List Int) {g1:Nat} {caps1:List XV} (hm1:E.mode g1=1) (f_1:Int→Option Bool) (hf1:∀ (W:Nat→Bool) (h:Heap),(∀ b,
  h.length≤b→W b=true)→∀ a0 r,f_1 a0=some r→Ret E W g1 ([.int .i64 a0]++caps1) h (fun v h'=>cut h.length h' E.sz false 9 v=some (.bool r))) (r:Int)
  (hF:xz s_0 f_1=some r) : Ret E W 85 [lst cI s_0,.fn g1 caps1] h (fun v h'=>cut h.length h' E.sz false 9 v=some (.int .i64 r)):=by
 refine Ret.of (fn:=x85) rfl (Run.of ?_)
 unfold xz at hF
 have zf0:zh [lst cI s_0,.fn g1 caps1] 0=lst cI s_0:=rfl
 have zf1:zh [lst cI s_0,.fn g1 caps1] 1 = .fn g1 caps1:=rfl
 generalize zh [lst cI s_0,.fn g1 caps1]=fr0 at zf0 zf1 ⊢
 have hS:Sep h (geL h.length) []:=Sep.nil h
 simp only [x85,qd,qc,qe,qa,q1h,zf0,z6,qb,z5,B0,reduceIte,reduceEqDiff]
 obtain ⟨oc3,hX5,hk6⟩:=jp hF
 simp only [qxv]
 refine ko (σ:=Unit) s_0 (fun i1 x2 _=>w7 f_1 i1 x2 ) (fun s fr' h'=>fr' 0=lst cI s_0∧fr' 1 = .fn g1 caps1∧Sep h' (geL h.length)
   ([])) hX5 ⟨zf0,zf1,hS⟩ (by simp only [B0,reduceIte,reduceEqDiff]) (by simp only [B0,reduceIte,
   reduceEqDiff]) (fun _ _ _ h=>h) rfl rfl (fun _ _ _ _ h=>h) (fun _ _ _ _ h=>h) (fun _ _ _ _ h=>h) (by decide) ?_ ?_
 ·rintro i1 x2 _ fr15 h16 hx20 ⟨f18,f19,hS17⟩ f21 f22 oc4 hF7 hr8 Q9 hN10 hB14 hK11 hR12 hE13
  unfold w7 at hF7
  simp only [q2o,qd,qc,f21,qe,qa,q4e,f19,f18,jg,B0,reduceIte,reduceEqDiff]
  refine qh (v := .ref (cI x2) 0) (kp hx20 rfl) ?_
  simp only [qp,B0,reduceIte,reduceEqDiff]
  refine qh (v := .int .i64 x2) rfl ?_
  obtain ⟨v23,hx24,hF25⟩:=qg hF7
  simp only [zd,B0,reduceIte,reduceEqDiff]
  refine j5 hm1 (qj qq q9) (hf1 _ _ (fun b hb=>decide_eq_true hb) x2 v23 hx24) ?_
  simp only [qa,q3f,zc,B0,reduceIte,reduceEqDiff]
  refine zb (t:=v23) (fun hc26=>?_) (fun hc26=>?_)
  ·rw [iteT hc26] at hF25
   simp only [qd,qc,qe,qa,qz,B0,reduceIte,reduceEqDiff]
   have e27:=qk hF25
   subst e27
   have ho28:=hr8 _ rfl
   have hk29:=hk6
   rw [ho28] at hk29
   dsimp only [jnO] at hk29
   apply hR12
   have he:=qk hk29
   subst he
   simp only [zl,B0,reduceIte,reduceEqDiff]
   exact rfl
  rw [iteF hc26] at hF25
  simp only [zg,qo,B0,reduceIte,reduceEqDiff]
  have e30:=qk hF25
  exact hN10 _ _ _ e30.symm ⟨f18,f19,hS17⟩ (f21) (f22)
 rintro _ fr32 h33 rfl ⟨f35,f36,hS34⟩
 dsimp only [jnO] at hk6
 unfold qdd at hk6
 simp only [qd,qc,qe,qa,qz,B0,reduceIte,reduceEqDiff]
 have he:=qk hk6
 subst he
 simp only [zl,B0,reduceIte,reduceEqDiff]
 exact rfl
theorem qga {W:Nat→Bool}{h:Heap} (hW:∀ b,
  (geL h.length) b→W b=true) (s_0:List Int) {g1:Nat} {caps1:List XV} (hm1:E.mode g1=1) (f_1:Int→Option Bool) (hf1:∀ (W:Nat→Bool) (h:Heap),(∀ b,
  h.length≤b→W b=true)→∀ a0 r,f_1 a0=some r→Ret E W g1 ([.int .i64 a0]++caps1) h (fun v h'=>cut h.length h' E.sz false 9 v=some (.bool r))) (r:Bool)
  (hF:yj s_0 f_1=some r) : Ret E W 82 [lst cI s_0,.fn g1 caps1] h (fun v h'=>cut h.length h' E.sz false 9 v=some (.bool r)):=by
 refine Ret.of (fn:=x82) rfl (Run.of ?_)
 unfold yj at hF
 have zf0:zh [lst cI s_0,.fn g1 caps1] 0=lst cI s_0:=rfl
 have zf1:zh [lst cI s_0,.fn g1 caps1] 1 = .fn g1 caps1:=rfl
 generalize zh [lst cI s_0,.fn g1 caps1]=fr0 at zf0 zf1 ⊢
 have hS:Sep h (geL h.length) []:=Sep.nil h
 obtain ⟨v1,hx2,hF3⟩:=qg hF
 simp only [x82,qd,qc,qe,qa,q25,zf0,zf1,zd,B0,reduceIte,reduceEqDiff]
 refine j5 rfl (qj zm (qj qhw q9)) (qhn (fun b hb=>decide_eq_true hb) s_0 (g1:=g1) (caps1:=caps1) hm1 f_1 hf1 v1 hx2) ?_
 simp only [zf,qb,qja,qe,qa,qz,B0,reduceIte,reduceEqDiff]
 have he:=qk hF3
 subst he
 simp only [zl,B0,reduceIte,reduceEqDiff]
 exact rfl
theorem qjc {W:Nat→Bool}{h:Heap} (hW:∀ b,
  (geL h.length) b→W b=true) (n_0:Int) (r:Bool) (hF:some (wq n_0)=some r) : Ret E W 83 [.int .i64 n_0] h
  (fun v h'=>cut h.length h' E.sz false 9 v=some (.bool r)):=by
 refine Ret.of (fn:=x83) rfl (Run.of ?_)
 unfold wq at hF
 have zf0:zh [.int .i64 n_0] 0 = .int .i64 n_0:=rfl
 generalize zh [.int .i64 n_0]=fr0 at zf0 ⊢
 have hS:Sep h (geL h.length) []:=Sep.nil h
 simp only [x83,qd,qc,qe,qa,qzc,zf0,zd,B0,reduceIte,reduceEqDiff]
 refine j5 rfl (qj qq (qj qq (qj qq q9))) (ug (fun b hb=>decide_eq_true hb) n_0 0 1000000 _ rfl) ?_
 simp only [jz,qb,kf,qe,qa,qz,B0,reduceIte,reduceEqDiff]
 have he:=qk hF
 subst he
 simp only [zl,B0,reduceIte,reduceEqDiff]
 exact rfl
theorem qkj {W:Nat→Bool}{h:Heap} (hW:∀ b,
  (geL h.length) b→W b=true) (k:Nat) (x_0:List Int) (r:Int) (hF:qbq k x_0=some r) : Ret E W 84 [lst cI x_0] h
  (fun v h'=>cut h.length h' E.sz false 9 v=some (.int .i64 r)):=by
 refine Ret.of (fn:=x84) rfl (Run.of ?_)
 unfold qbq at hF
 have zf0:zh [lst cI x_0] 0=lst cI x_0:=rfl
 generalize zh [lst cI x_0]=fr0 at zf0 ⊢
 have hS:Sep h (geL h.length) []:=Sep.nil h
 simp only [x84,qd,qc,qe,qa,q4a,zf0,z6,qb,z5,zf,qgr,q3k,zc,B0,reduceIte,reduceEqDiff]
 obtain ⟨sv4,hX2,hk3⟩:=qg hF
 refine u5 (t:=(decide ((List.length x_0:Int)<1))) (fun fr' h'=>fr' 0=lst cI x_0∧Sep h' (geL h.length) ([])) (fun Q5 hN6 hR7 hE8=>⟨fun hc9=>?_,
   fun hc9=>?_⟩) ?_
 ·rw [iteT hc9] at hX2
  cases hX2
 ·rw [iteF hc9] at hX2
  simp only [zg,qo,B0,reduceIte,reduceEqDiff]
  have e10:=qk hX2
  subst e10
  exact hN6 _ _ ⟨zf0,hS⟩
 rintro fr11 h12 ⟨f14,hS13⟩
 unfold qdh at hk3
 obtain ⟨x15,hx16,hF17⟩:=qg hk3
 simp only [q5q,qd,qc,f14,qe,jg,B0,reduceIte,reduceEqDiff]
 refine qh (v := .ref (cI x15) 0) (k5 hx16 rfl) ?_
 simp only [qp,B0,reduceIte,reduceEqDiff]
 refine qh (v := .int .i64 x15) rfl ?_
 simp only [qe,qa,q48,qd,qc,B0,reduceIte,reduceEqDiff]
 obtain ⟨oc24,hX26,hk27⟩:=jp hF17
 simp only [q47]
 refine qe9 (σ:=Int × Int) (fun s49=>qbf x_0 s49.1 s49.2) (fun s fr' h'=>fr' 0=lst cI x_0∧fr' 3 = .int .i64 s.1∧fr' 4 = .int .i64 s.2∧Sep h'
   (geL h.length) ([])) hX26 ⟨f14,rfl,rfl,hS13⟩ (fun _ _ _ h=>h) ?_ ?_
 ·rintro ⟨s20,s21⟩ fr36 h37 ⟨f39,f40,f41,hS38⟩ oc25 hF28 hr29 Q30 hN31 hK32 hR33 hE34
  dsimp only at *
  unfold qbf at hF28
  simp only [qx0,qd,qc,f41,qe,f39,z6,qb,z5,zf,qgr,qa,zc,B0,reduceIte,reduceEqDiff]
  refine zb (t:=(decide (s21<(List.length x_0:Int)))) (fun hc43=>?_) (fun hc43=>?_)
  ·rw [iteT hc43] at hF28
   obtain ⟨x44,hx45,hF46⟩:=qg hF28
   simp only [zg,q3o,qd,xn,q5m,qc,f40,qe,f39,f41,jg,B0,reduceIte,reduceEqDiff]
   refine qh (v := .ref (cI x44) 0) (k5 hx45 rfl) ?_
   simp only [qp,B0,reduceIte,reduceEqDiff]
   refine qh (v := .int .i64 x44) rfl ?_
   simp only [q6s,qb,q9j,qe,qa,uo,qc,f41,zf,yz,qo,B0,reduceIte,reduceEqDiff]
   have e47:=qk hF46
   exact hN31 _ _ _ e47.symm ⟨f39,rfl,rfl,hS38⟩
  rw [iteF hc43] at hF28
  simp only [qd2,qcy,qeb,B0,reduceIte,reduceEqDiff]
  have e48:=qk hF28
  exact hK32 _ _ _ e48.symm ⟨f39,f40,f41,hS38⟩
 rintro ⟨s50,s51⟩ fr52 h53 rfl ⟨f55,f56,f57,hS54⟩
 dsimp only [jnO] at hk27
 dsimp only at *
 unfold qf8 at hk27
 simp only [qd,qc,f56,qe,qa,qz,B0,reduceIte,reduceEqDiff]
 have he:=qk hk27
 subst he
 simp only [zl,B0,reduceIte,reduceEqDiff]
 exact rfl
theorem qkg {W:Nat→Bool}{h:Heap} (hW:∀ b,
  (geL h.length) b→W b=true) (k:Nat) (p_0:Picture) (own_1:Int) (procs_2:Int) (r:Bool)
  (hF:xu k p_0 own_1 procs_2=some r) : Ret E W 77 [.agg [.bool p_0.Taken,.int .i64 p_0.Amount,lst cI p_0.In,lst cB p_0.Closed],.int .i64 own_1,
  .int .i64 procs_2] h (fun v h'=>cut h.length h' E.sz false 9 v=some (.bool r)):=by
 refine Ret.of (fn:=x77) rfl (Run.of ?_)
 unfold xu at hF
 have zf0:zh [.agg [.bool p_0.Taken,.int .i64 p_0.Amount,lst cI p_0.In,lst cB p_0.Closed],.int .i64 own_1,.int .i64 procs_2] 0 = .agg [.bool p_0.Taken,
   .int .i64 p_0.Amount,lst cI p_0.In,lst cB p_0.Closed]:=rfl
 have zf1:zh [.agg [.bool p_0.Taken,.int .i64 p_0.Amount,lst cI p_0.In,lst cB p_0.Closed],.int .i64 own_1,.int .i64 procs_2] 1 = .int .i64 own_1:=rfl
 have zf2:zh [.agg [.bool p_0.Taken,.int .i64 p_0.Amount,lst cI p_0.In,lst cB p_0.Closed],.int .i64 own_1,.int .i64 procs_2] 2 = .int .i64 procs_2:=rfl
 generalize zh [.agg [.bool p_0.Taken,.int .i64 p_0.Amount,lst cI p_0.In,lst cB p_0.Closed],.int .i64 own_1,.int .i64 procs_2]=fr0 at zf0 zf1 zf2 ⊢
 have hS:Sep h (geL h.length) []:=Sep.nil h
 simp only [x77,qd,qc,kh,zf0,B0,reduceIte,reduceEqDiff]
 refine jt (cs:=[.bool p_0.Taken,.int .i64 p_0.Amount,lst cI p_0.In,lst cB p_0.Closed]) hS rfl rfl rfl (fun b1 h2 hS3=>?_)
 simp only [qe,qa,B0,reduceIte,reduceEqDiff]
 refine zw hS3 hW (by simp only [B0,reduceIte,reduceEqDiff]) (fun h5 hS6=>?_)
 simp only [zo,q1o,qd,qc,qt,qb,Nat.reduceAdd,Nat.zero_add,Nat.add_zero,qr,qp,B0,reduceIte,reduceEqDiff]
 refine qh (v:=lst cI p_0.In) rfl ?_
 simp only [z6,qb,z5,zf2,qe,zf,ws,B0,reduceIte,reduceEqDiff]
 refine j0 6 (fun fr' h'=>Sep h' (geL h.length) ([])∧fr' 18 = .bool ((decide ((List.length p_0.In:Int)≠procs_2))||(decide
   ((List.length p_0.Closed:Int)≠procs_2)))∧fr' 1 = .int .i64 own_1∧fr' 3 = .ref [.bool p_0.Taken,.int .i64 p_0.Amount,lst cI p_0.In,
   lst cB p_0.Closed] 0) (fun Q7 hN8=>?_) ?_
 ·simp only [List.take_succ_cons,List.take_zero]
  simp only [ql (g:=12),B0,reduceIte,reduceEqDiff]
  refine zn (t:=(decide ((List.length p_0.In:Int)≠procs_2))) (fun hg9=>?_) (fun hg9=>?_)
  ·simp only [hg9,ql (g:=12),jm,za,qb,zp,qa,qo,B0,reduceIte,reduceEqDiff]
   exact hN8 _ _ ⟨hS6,by rw [orT hg9]; simp only [B0,reduceIte,reduceEqDiff],zf1,rfl⟩
  ·simp only [hg9,ql (g:=12),qv,qt,qb,Nat.reduceAdd,Nat.zero_add,Nat.add_zero,qr,qp,B0,reduceIte,reduceEqDiff]
   refine qh (v:=lst cB p_0.Closed) rfl ?_
   simp only [hg9,ql (g:=12),qv,z6,qb,z5,zf2,qe,zf,ws,za,zq,qa,qo,B0,reduceIte,
     reduceEqDiff]
   exact hN8 _ _ ⟨hS6,by rw [orF hg9]; simp only [B0,reduceIte,reduceEqDiff],zf1,rfl⟩
 rintro fr10 h14 ⟨hS15,f11,f12,f13⟩
 simp only [List.drop_succ_cons,List.drop_zero]
 simp only [f11,qe,B0,reduceIte,reduceEqDiff]
 obtain ⟨v19,hx20,hF21⟩:=qg hF
 refine j0 4 (fun fr' h'=>Sep h' (geL h.length) ([])∧fr' 23 = .bool v19∧fr' 1 = .int .i64 own_1∧fr' 3 = .ref [.bool p_0.Taken,.int .i64 p_0.Amount,lst cI p_0.In,
   lst cB p_0.Closed] 0) (fun Q16 hN17=>?_) ?_
 ·simp only [List.take_succ_cons,List.take_zero]
  simp only [ql (g:=19),B0,reduceIte,reduceEqDiff]
  refine zn (t:=((decide ((List.length p_0.In:Int)≠procs_2))||(decide ((List.length p_0.Closed:Int)≠procs_2)))) (fun hg18=>?_) (fun hg18=>?_)
  ·rw [iteT hg18] at hx20
   simp only [hg18,ql (g:=19),jm,za,qb,zp,qa,qo,B0,reduceIte,reduceEqDiff]
   have e22:=qk hx20
   exact hN17 _ _ ⟨hS15,by rw [←e22]; simp only [B0,reduceIte,reduceEqDiff],f12,f13⟩
  ·rw [iteF hg18] at hx20
   simp only [hg18,ql (g:=19),qv,f13,qt,qb,Nat.reduceAdd,Nat.zero_add,Nat.add_zero,qr,qp,B0,reduceIte,reduceEqDiff]
   refine qh (v:=lst cI p_0.In) rfl ?_
   obtain ⟨v23,hx24,hF25⟩:=qg hx20
   simp only [hg18,ql (g:=19),qv,zd,B0,reduceIte,reduceEqDiff]
   refine j5 rfl (qj zm (qj qhw q9)) (qga (fun b hb=>decide_eq_true hb) p_0.In (g1:=83) (caps1:=[]) rfl (fun a0=>some
     (wq a0)) (fun W h hW a0 r hr=>qjc hW a0 r hr) v23 hx24) ?_
   simp only [hg18,za,qb,zq,qa,qo,B0,reduceIte,reduceEqDiff]
   have e26:=qk hF25
   exact hN17 _ _ ⟨hS15,by rw [←e26]; simp only [B0,reduceIte,reduceEqDiff],f12,f13⟩
 rintro fr27 h31 ⟨hS32,f28,f29,f30⟩
 simp only [List.drop_succ_cons,List.drop_zero]
 simp only [qa,f28,zc,B0,reduceIte,reduceEqDiff]
 refine zb (t:=v19) (fun hc33=>?_) (fun hc33=>?_)
 ·rw [iteT hc33] at hF21
  simp only [qd,qc,qe,qa,qz,B0,reduceIte,reduceEqDiff]
  have he:=qk hF21
  subst he
  simp only [zl,B0,reduceIte,reduceEqDiff]
  exact rfl
 rw [iteF hc33] at hF21
 simp only [zg,q5l,qd,qc,f30,qt,qb,Nat.reduceAdd,Nat.zero_add,Nat.add_zero,qr,qp,B0,reduceIte,reduceEqDiff]
 refine qh (v := .bool p_0.Taken) rfl ?_
 simp only [jz,qb,kf,qa,qyw,zc,B0,reduceIte,reduceEqDiff]
 refine zb (t:=(!p_0.Taken)) (fun hc34=>?_) (fun hc34=>?_)
 ·rw [iteT hc34] at hF21
  simp only [q3g,qd,qc,f30,qt,qb,Nat.reduceAdd,Nat.zero_add,Nat.add_zero,qr,qp,B0,reduceIte,reduceEqDiff]
  refine qh (v := .int .i64 p_0.Amount) rfl ?_
  simp only [zf,qb,wi,qe,B0,reduceIte,reduceEqDiff]
  obtain ⟨v38,hx39,hF40⟩:=qg hF21
  refine j0 5 (fun fr' h'=>Sep h' (geL h.length) ([])∧fr' 35 = .bool v38∧fr' 3 = .ref [.bool p_0.Taken,.int .i64 p_0.Amount,lst cI p_0.In,
    lst cB p_0.Closed] 0) (fun Q35 hN36=>?_) ?_
  ·simp only [List.take_succ_cons,List.take_zero]
   simp only [ql (g:=30),B0,reduceIte,reduceEqDiff]
   refine zn (t:=(decide (p_0.Amount=0))) (fun hg37=>?_) (fun hg37=>?_)
   ·rw [iteT hg37] at hx39
    simp only [hg37,ql (g:=30),z4,f30,qt,qb,Nat.reduceAdd,Nat.zero_add,Nat.add_zero,qr,qp,B0,reduceIte,reduceEqDiff]
    refine qh (v:=lst cI p_0.In) rfl ?_
    obtain ⟨v41,hx42,hF43⟩:=qg hx39
    simp only [hg37,ql (g:=30),z4,zd,B0,reduceIte,reduceEqDiff]
    refine j5 rfl (qj zm q9) (qkj (fun b hb=>decide_eq_true hb) k p_0.In v41 hx42) ?_
    simp only [hg37,ql (g:=30),z4,zf,qb,wi,za,zp,qa,qo,B0,reduceIte,reduceEqDiff]
    have e44:=qk hF43
    exact hN36 _ _ ⟨hS32,by rw [←e44]; simp only [B0,reduceIte,reduceEqDiff],f30⟩
   ·rw [iteF hg37] at hx39
    simp only [hg37,ql (g:=30),kw,za,qb,zq,qa,qo,B0,reduceIte,reduceEqDiff]
    have e45:=qk hx39
    exact hN36 _ _ ⟨hS32,by rw [←e45]; simp only [B0,reduceIte,reduceEqDiff],f30⟩
  rintro fr46 h49 ⟨hS50,f47,f48⟩
  simp only [List.drop_succ_cons,List.drop_zero]
  simp only [f47,qe,B0,reduceIte,reduceEqDiff]
  obtain ⟨v54,hx55,hF56⟩:=qg hF40
  refine j0 5 (fun fr' h'=>Sep h' (geL h.length) ([])∧fr' 41 = .bool v54) (fun Q51 hN52=>?_) ?_
  ·simp only [List.take_succ_cons,List.take_zero]
   simp only [ql (g:=36),B0,reduceIte,reduceEqDiff]
   refine zn (t:=v38) (fun hg53=>?_) (fun hg53=>?_)
   ·rw [iteT hg53] at hx55
    simp only [hg53,ql (g:=36),z4,f48,qt,qb,Nat.reduceAdd,Nat.zero_add,Nat.add_zero,qr,qp,B0,reduceIte,reduceEqDiff]
    refine qh (v:=lst cB p_0.Closed) rfl ?_
    obtain ⟨v57,hx58,hF59⟩:=qg hx55
    simp only [hg53,ql (g:=36),z4,zd,B0,reduceIte,reduceEqDiff]
    refine j5 rfl (qj zm (qj qea q9)) (qdp (fun b hb=>decide_eq_true hb) p_0.Closed true v57 hx58) ?_
    simp only [hg53,ql (g:=36),z4,jz,qb,kf,za,zp,qa,qo,B0,reduceIte,reduceEqDiff]
    have e60:=qk hF59
    exact hN52 _ _ ⟨hS50,by rw [←e60]; simp only [B0,reduceIte,reduceEqDiff]⟩
   ·rw [iteF hg53] at hx55
    simp only [hg53,ql (g:=36),kw,za,qb,zq,qa,qo,B0,reduceIte,reduceEqDiff]
    have e61:=qk hx55
    exact hN52 _ _ ⟨hS50,by rw [←e61]; simp only [B0,reduceIte,reduceEqDiff]⟩
  rintro fr62 h64 ⟨hS65,f63⟩
  simp only [List.drop_succ_cons,List.drop_zero]
  simp only [f63,qe,qa,qz,B0,reduceIte,reduceEqDiff]
  have he:=qk hF56
  subst he
  simp only [zl,B0,reduceIte,reduceEqDiff]
  exact rfl
 rw [iteF hc34] at hF21
 simp only [zg,q2z,qd,qc,f30,qt,qb,Nat.reduceAdd,Nat.zero_add,Nat.add_zero,qr,qp,B0,reduceIte,reduceEqDiff]
 refine qh (v := .int .i64 p_0.Amount) rfl ?_
 simp only [zd,B0,reduceIte,reduceEqDiff]
 refine j5 rfl (qj qq (qj qq (qj qq q9))) (ug (fun b hb=>decide_eq_true hb) p_0.Amount 0 1000 _ rfl) ?_
 simp only [qe,B0,reduceIte,reduceEqDiff]
 obtain ⟨v69,hx70,hF71⟩:=qg hF21
 refine j0 7 (fun fr' h'=>Sep h' (geL h.length) ([])∧fr' 52 = .bool v69∧fr' 1 = .int .i64 own_1∧fr' 3 = .ref [.bool p_0.Taken,.int .i64 p_0.Amount,lst cI p_0.In,
   lst cB p_0.Closed] 0) (fun Q66 hN67=>?_) ?_
 ·simp only [List.take_succ_cons,List.take_zero]
  simp only [ql (g:=45),B0,reduceIte,reduceEqDiff]
  refine zn (t:=(zx p_0.Amount 0 1000)) (fun hg68=>?_) (fun hg68=>?_)
  ·rw [iteT hg68] at hx70
   simp only [hg68,ql (g:=45),z4,f30,qt,qb,Nat.reduceAdd,Nat.zero_add,Nat.add_zero,qr,qp,B0,reduceIte,reduceEqDiff]
   refine qh (v:=lst cI p_0.In) rfl ?_
   obtain ⟨x72,hx73,hF74⟩:=qg hx70
   simp only [hg68,ql (g:=45),z4,f29,qe,jg,B0,reduceIte,reduceEqDiff]
   refine qh (v := .ref (cI x72) 0) (k5 hx73 rfl) ?_
   simp only [hg68,ql (g:=45),z4,qp,B0,reduceIte,reduceEqDiff]
   refine qh (v := .int .i64 x72) rfl ?_
   simp only [hg68,ql (g:=45),z4,zf,qb,wi,za,zp,qa,qo,B0,reduceIte,reduceEqDiff]
   have e75:=qk hF74
   exact hN67 _ _ ⟨hS32,by rw [←e75]; simp only [B0,reduceIte,reduceEqDiff],f29,f30⟩
  ·rw [iteF hg68] at hx70
   simp only [hg68,ql (g:=45),kw,za,qb,zq,qa,qo,B0,reduceIte,reduceEqDiff]
   have e76:=qk hx70
   exact hN67 _ _ ⟨hS32,by rw [←e76]; simp only [B0,reduceIte,reduceEqDiff],f29,f30⟩
 rintro fr77 h81 ⟨hS82,f78,f79,f80⟩
 simp only [List.drop_succ_cons,List.drop_zero]
 simp only [f78,qe,B0,reduceIte,reduceEqDiff]
 obtain ⟨v86,hx87,hF88⟩:=qg hF71
 refine j0 6 (fun fr' h'=>Sep h' (geL h.length) ([])∧fr' 59 = .bool v86) (fun Q83 hN84=>?_) ?_
 ·simp only [List.take_succ_cons,List.take_zero]
  simp only [ql (g:=53),B0,reduceIte,reduceEqDiff]
  refine zn (t:=v69) (fun hg85=>?_) (fun hg85=>?_)
  ·rw [iteT hg85] at hx87
   simp only [hg85,ql (g:=53),z4,f80,qt,qb,Nat.reduceAdd,Nat.zero_add,Nat.add_zero,qr,qp,B0,reduceIte,reduceEqDiff]
   refine qh (v:=lst cB p_0.Closed) rfl ?_
   obtain ⟨x89,hx90,hF91⟩:=qg hx87
   simp only [hg85,ql (g:=53),z4,f79,qe,jg,B0,reduceIte,reduceEqDiff]
   refine qh (v := .ref (cB x89) 0) (k5 hx90 rfl) ?_
   simp only [hg85,ql (g:=53),z4,qp,B0,reduceIte,reduceEqDiff]
   refine qh (v := .bool x89) rfl ?_
   simp only [hg85,za,qb,zp,qa,qo,B0,reduceIte,reduceEqDiff]
   have e92:=qk hF91
   exact hN84 _ _ ⟨hS82,by rw [←e92]; simp only [B0,reduceIte,reduceEqDiff]⟩
  ·rw [iteF hg85] at hx87
   simp only [hg85,ql (g:=53),kw,za,qb,zq,qa,qo,B0,reduceIte,reduceEqDiff]
   have e93:=qk hx87
   exact hN84 _ _ ⟨hS82,by rw [←e93]; simp only [B0,reduceIte,reduceEqDiff]⟩
 rintro fr94 h96 ⟨hS97,f95⟩
 simp only [List.drop_succ_cons,List.drop_zero]
 simp only [f95,qe,qa,qz,B0,reduceIte,reduceEqDiff]
 have he:=qk hF88
 subst he
 simp only [zl,B0,reduceIte,reduceEqDiff]
 exact rfl
end Go.Proofs.Ytpkiieniipenjaa.X
