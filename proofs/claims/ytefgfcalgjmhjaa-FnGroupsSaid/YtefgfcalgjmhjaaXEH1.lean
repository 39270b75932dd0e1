/- The functions' code comes to what the plain functions say (1). -/
import Derived.Test.YtefgfcalgjmhjaaXEF
import Derived.Test.YtefgfcalgjmhjaaXED
set_option linter.unusedVariables false
set_option linter.unusedSimpArgs false
set_option maxRecDepth 100000
namespace Go.Proofs.Ytefgfcalgjmhjaa.X
open Go
open Nat (reduceEqDiff)
def Replica.R:Rep Replica:=fun x cs os=>∃ (v0:XV) (c0:List Obj),SlF Row.cells 2 98 v0 x.Log c0∧cs=[v0,.int .i64 x.Epoch,.int .i64 x.Known]∧c0=os
theorem Replica.RI {x:Replica}{v0:XV}{c0:List Obj}(h0:SlF Row.cells 2 98 v0 x.Log c0) : Replica.R x [v0,.int .i64 x.Epoch,.int .i64 x.Known] (c0):=⟨v0,c0,h0,rfl,
  rfl⟩
theorem Replica.RO:RepOk E.sz Replica.R Replica.cells 3 where
 len:=fun {x cs os} H=>by
  obtain ⟨v0,c0,h0,rfl,rfl⟩:=H
  rfl
 flen:=fun _=>rfl
 one:=fun {x cs os} H=>by
  obtain ⟨v0,c0,h0,rfl,rfl⟩:=H
  exact (qm (SlF.one h0) (qm rfl (qm rfl zq)))
 snap:=fun {x cs os h lo S} m H hS=>by
  obtain ⟨v0,c0,h0,rfl,rfl⟩:=H
  have hS2:Sep h lo (c0++S):=(by simpa only [List.append_assoc] using hS)
  exact (ql (SlF.snap h0 hS2 rfl (fun _=>rfl) (fun _=>rfl)) (ql qq (ql qq zh)))
 cut:=fun {x cs os h lo n0 keep S} m H hS hge=>by
  obtain ⟨v0,c0,h0,rfl,rfl⟩:=H
  have hS2:Sep h lo (c0++S):=(by simpa only [List.append_assoc] using hS)
  exact (ql (SlF.cut h0 hS2 hge rfl (fun _=>rfl) (fun _=>rfl)) (ql rfl (ql rfl zh)))
 free:=fun {x cs os} H=>by
  obtain ⟨v0,c0,h0,rfl,rfl⟩:=H
  exact (qm (SlF.free1 h0) (qm rfl (qm rfl zq)))
 pf:=fun {x cs os} H=>by
  obtain ⟨v0,c0,h0,rfl,rfl⟩:=H
  exact (SlF.pf h0 (fun _=>rfl))
theorem qgp {W:Nat→Bool}{h:Heap}{lo:Nat→Prop}{S0:List Obj} (hW:∀ b,
  lo b→W b=true) (pv0:XV) (pc0:List Obj) (s_0:List Int) (ph0:SlF cI 1 3 pv0 s_0 pc0) (i_1:Int) (pv2:XV) (pc2:List Obj) (v_2:List Int)
  (ph2:SlF cI 1 3 pv2 v_2 pc2) (r:List Int × List Int) (hF:qb3 s_0 i_1 v_2=some r) (hS:Sep h lo (pc0++(pc2++S0))) : Ret E W 91 [pv0,.int .i64 i_1,
  pv2] h (fun v h'=>∃ rv0 rc0 ic2,v=rv0∧SlF cI 1 3 rv0 r.1 rc0∧SlF cI 1 3 pv2 r.2 ic2∧Sep h' lo (rc0++(ic2++S0))):=q3o rfl rfl hW ph0 ph2 hF hS
theorem wj {W:Nat→Bool}{h:Heap} (hW:∀ b,
  (geL h.length) b→W b=true) (n_0:Int) (low_1:Int) (high_2:Int) (r:Bool) (hF:some (zp n_0 low_1 high_2)=some r) : Ret E W 64 [.int .i64 n_0,
  .int .i64 low_1,.int .i64 high_2] h (fun v h'=>cut h.length h' E.sz false 9 v=some (.bool r)):=by
 refine Ret.of (fn:=x64) rfl (Run.of ?_)
 unfold zp at hF
 have zf0:zc [.int .i64 n_0,.int .i64 low_1,.int .i64 high_2] 0 = .int .i64 n_0:=rfl
 have zf1:zc [.int .i64 n_0,.int .i64 low_1,.int .i64 high_2] 1 = .int .i64 low_1:=rfl
 have zf2:zc [.int .i64 n_0,.int .i64 low_1,.int .i64 high_2] 2 = .int .i64 high_2:=rfl
 generalize zc [.int .i64 n_0,.int .i64 low_1,.int .i64 high_2]=fr0 at zf0 zf1 zf2 ⊢
 have hS:Sep h (geL h.length) []:=Sep.nil h
 simp only [x64,qf,qe,qd,qa,qy0,zf0,zf1,qy,qb,qj0,B0,reduceIte,reduceEqDiff]
 refine z8 4 (fun fr' h'=>Sep h' (geL h.length) ([])∧fr' 14 = .bool ((decide (low_1≤n_0))&&(decide (n_0≤high_2)))) (fun Q1 hN2=>?_) ?_
 ·simp only [List.take_succ_cons,List.take_zero]
  simp only [qc (g:=10),B0,reduceIte,reduceEqDiff]
  refine zb (t:=(decide (low_1≤n_0))) (fun hg3=>?_) (fun hg3=>?_)
  ·simp only [hg3,qc (g:=10),zk,zf0,qd,zf2,qy,qb,qjq,qu,zf,qa,qk,B0,reduceIte,reduceEqDiff]
   exact hN2 _ _ ⟨hS,by rw [x8 hg3]; simp only [B0,reduceIte,reduceEqDiff]⟩
  ·simp only [hg3,qc (g:=10),j5,qu,qb,zg,qa,qk,B0,reduceIte,reduceEqDiff]
   exact hN2 _ _ ⟨hS,by rw [xw hg3]; simp only [B0,reduceIte,reduceEqDiff]⟩
 rintro fr4 h6 ⟨hS7,f5⟩
 simp only [List.drop_succ_cons,List.drop_zero]
 simp only [f5,qd,qa,qz,B0,reduceIte,reduceEqDiff]
 have he:=qj hF
 subst he
 simp only [ze,B0,reduceIte,reduceEqDiff]
 exact rfl
theorem w6 {W:Nat→Bool}{h:Heap} (hW:∀ b,
  (geL h.length) b→W b=true) (k:Nat) (g_0:Group) (k_1:Int) (r:Int) (hF:kn k g_0 k_1=some r) : Ret E W 69 [.agg [.int .i64 g_0.Epoch,
  .int .i64 g_0.Leader,lst cI g_0.InStep,.int .i64 g_0.High,lst Replica.cells g_0.Replicas],
  .int .i64 k_1] h (fun v h'=>cut h.length h' E.sz false 9 v=some (.int .i64 r)):=by
 refine Ret.of (fn:=x69) rfl (Run.of ?_)
 unfold kn at hF
 have zf0:zc [.agg [.int .i64 g_0.Epoch,.int .i64 g_0.Leader,lst cI g_0.InStep,.int .i64 g_0.High,lst Replica.cells g_0.Replicas],
   .int .i64 k_1] 0 = .agg [.int .i64 g_0.Epoch,.int .i64 g_0.Leader,lst cI g_0.InStep,.int .i64 g_0.High,lst Replica.cells g_0.Replicas]:=rfl
 have zf1:zc [.agg [.int .i64 g_0.Epoch,.int .i64 g_0.Leader,lst cI g_0.InStep,.int .i64 g_0.High,lst Replica.cells g_0.Replicas],.int .i64 k_1] 1 = .int .i64 k_1:=rfl
 generalize zc [.agg [.int .i64 g_0.Epoch,.int .i64 g_0.Leader,lst cI g_0.InStep,.int .i64 g_0.High,lst Replica.cells g_0.Replicas],.int .i64 k_1]=fr0 at zf0 zf1 ⊢
 have hS:Sep h (geL h.length) []:=Sep.nil h
 simp only [x69,qf,qe,wu,zf0,B0,reduceIte,reduceEqDiff]
 refine yj (cs:=[.int .i64 g_0.Epoch,.int .i64 g_0.Leader,lst cI g_0.InStep,.int .i64 g_0.High,lst Replica.cells g_0.Replicas]) hS rfl rfl rfl (fun b1 h2 hS3=>?_)
 simp only [qd,qa,B0,reduceIte,reduceEqDiff]
 refine jm hS3 hW (by simp only [B0,reduceIte,reduceEqDiff]) (fun h5 hS6=>?_)
 simp only [jb,qy6,qf,jf,zr,qg,Nat.reduceAdd,Nat.zero_add,Nat.add_zero,qv,zl,B0,reduceIte,reduceEqDiff]
 refine qp (v:=lst Replica.cells g_0.Replicas) rfl ?_
 obtain ⟨x7,hx8,hF9⟩:=qi hF
 simp only [zf1,zn,qg,wt,B0,reduceIte,reduceEqDiff]
 refine qp (v := .ref (Replica.cells x7) 0) (y8 hx8 rfl) ?_
 simp only [zr,qg,Nat.reduceAdd,Nat.zero_add,Nat.add_zero,qv,zl,B0,reduceIte,reduceEqDiff]
 refine qp (v:=lst Row.cells x7.Log) rfl ?_
 simp only [zr,qg,Nat.reduceAdd,Nat.zero_add,Nat.add_zero,qv,zl,B0,reduceIte,reduceEqDiff]
 refine qp (v:=lst Replica.cells g_0.Replicas) rfl ?_
 simp only [zr,qg,Nat.reduceAdd,Nat.zero_add,Nat.add_zero,qv,zl,B0,reduceIte,reduceEqDiff]
 refine qp (v := .int .i64 g_0.Leader) rfl ?_
 obtain ⟨x10,hx11,hF12⟩:=qi hF9
 simp only [wt,B0,reduceIte,reduceEqDiff]
 refine qp (v := .ref (Replica.cells x10) 0) (y8 hx11 rfl) ?_
 simp only [zr,qg,Nat.reduceAdd,Nat.zero_add,Nat.add_zero,qv,zl,B0,reduceIte,reduceEqDiff]
 refine qp (v:=lst Row.cells x10.Log) rfl ?_
 simp only [zn,qg,qx,qw5,qf,qe,qd,qa,qzt,B0,reduceIte,reduceEqDiff]
 obtain ⟨oc17,hX19,hk20⟩:=ki hF12
 simp only [qym]
 refine qeg (σ:=Int) (fun s60=>wo x7 x10 s60)
   (fun s fr' h'=>fr' 5=lst Row.cells x7.Log∧fr' 6=lst Row.cells x10.Log∧fr' 7 = .int .i64 s∧Sep h' (geL h.length) ([])) hX19 ⟨rfl,rfl,rfl,
   hS6⟩ (fun _ _ _ h=>h) ?_ ?_
 ·rintro s14 fr29 h30 ⟨f32,f33,f34,hS31⟩ oc18 hF21 hr22 Q23 hN24 hK25 hR26 hE27
  unfold wo at hF21
  simp only [qz4,qf,jf,f34,zn,qg,f32,qdw,jh,f33,q2w,qn9,yd,qav,B0,reduceIte,reduceEqDiff]
  obtain ⟨v39,hx40,hF41⟩:=qi hF21
  refine qap 10 (fun fr' h'=>Sep h' (geL h.length) ([])∧fr' 38 = .bool v39∧fr' 5=lst Row.cells x7.Log∧fr' 6=lst Row.cells x10.Log∧fr' 7 = .int .i64 s14) rfl
    (fun Q36 hN37=>?_) ?_
  ·simp only [List.take_succ_cons,List.take_zero]
   simp only [qo (g:=28),B0,reduceIte,reduceEqDiff]
   refine jj (t:=(decide (s14<(mnI (List.length x7.Log:Int) (List.length x10.Log:Int))))) (fun hg38=>?_) (fun hg38=>?_)
   ·rw [iteT hg38] at hx40
    obtain ⟨x42,hx43,hF44⟩:=qi hx40
    simp only [hg38,qo (g:=28),zj,f32,zn,qg,f34,wt,B0,reduceIte,reduceEqDiff]
    refine qp (v := .ref (Row.cells x42) 0) (y8 hx43 rfl) ?_
    simp only [hg38,qo (g:=28),zj,zl,B0,reduceIte,reduceEqDiff]
    refine qp (v := .agg [.int .i64 x42.Epoch,.int .i64 x42.Value]) rfl ?_
    obtain ⟨x45,hx46,hF47⟩:=qi hF44
    simp only [hg38,qo (g:=28),zj,f33,zn,qg,f34,wt,B0,reduceIte,reduceEqDiff]
    refine qp (v := .ref (Row.cells x45) 0) (y8 hx46 rfl) ?_
    simp only [hg38,qo (g:=28),zj,zl,B0,reduceIte,reduceEqDiff]
    refine qp (v := .agg [.int .i64 x45.Epoch,.int .i64 x45.Value]) rfl ?_
    simp only [hg38,qo (g:=28),zj,qkx,B0,reduceIte,reduceEqDiff]
    refine qp (v := .bool ((x42.Epoch == x45.Epoch)&&((x42.Value == x45.Value)&&true))) rfl ?_
    simp only [hg38,jd,qg,zf,qx,qk,B0,reduceIte,reduceEqDiff]
    have e48:=qj hF47
    exact hN37 _ _ ⟨hS31,by rw [←e48]; simp only [B0,reduceIte,reduceEqDiff],f32,f33,f34⟩
   ·rw [iteF hg38] at hx40
    simp only [hg38,qo (g:=28),yn,jd,qg,zg,qx,qk,B0,reduceIte,reduceEqDiff]
    have e49:=qj hx40
    exact hN37 _ _ ⟨hS31,by rw [←e49]; simp only [B0,reduceIte,reduceEqDiff],f32,f33,f34⟩
  rintro fr50 h55 ⟨hS56,f51,f52,f53,f54⟩
  simp only [List.drop_succ_cons,List.drop_zero]
  simp only [qx,f51,q9,B0,reduceIte,reduceEqDiff]
  refine q8 (t:=v39) (fun hc57=>?_) (fun hc57=>?_)
  ·rw [iteT hc57] at hF41
   simp only [zi,ww,qe,f54,qd,qy,qb,qao,qa,xb,qk,B0,reduceIte,reduceEqDiff]
   have e58:=qj hF41
   exact hN24 _ _ _ e58.symm ⟨f52,f53,rfl,hS56⟩
  rw [iteF hc57] at hF41
  simp only [qcf,qbi,qcl,B0,reduceIte,reduceEqDiff]
  have e59:=qj hF41
  exact hK25 _ _ _ e59.symm ⟨f52,f53,f54,hS56⟩
 rintro s61 fr62 h63 rfl ⟨f65,f66,f67,hS64⟩
 dsimp only [jnO] at hk20
 unfold qc2 at hk20
 simp only [qf,qe,f67,qd,qa,qz,B0,reduceIte,reduceEqDiff]
 have he:=qj hk20
 subst he
 simp only [ze,B0,reduceIte,reduceEqDiff]
 exact rfl
theorem qhk {W:Nat→Bool}{h:Heap} (hW:∀ b,
  (geL h.length) b→W b=true) (list_0:List Int) (many_1:Int) (r:Bool) (hF:uz list_0 many_1=some r) : Ret E W 80 [lst cI list_0,
  .int .i64 many_1] h (fun v h'=>cut h.length h' E.sz false 9 v=some (.bool r)):=by
 refine Ret.of (fn:=x80) rfl (Run.of ?_)
 unfold uz at hF
 have zf0:zc [lst cI list_0,.int .i64 many_1] 0=lst cI list_0:=rfl
 have zf1:zc [lst cI list_0,.int .i64 many_1] 1 = .int .i64 many_1:=rfl
 generalize zc [lst cI list_0,.int .i64 many_1]=fr0 at zf0 zf1 ⊢
 have hS:Sep h (geL h.length) []:=Sep.nil h
 simp only [x80,qf,qe,qd,qa,qxo,zf0,zw,qb,jh,B0,reduceIte,reduceEqDiff]
 obtain ⟨oc3,hX5,hk6⟩:=ki hF
 simp only [qu9]
 refine wq (σ:=Unit) list_0 (fun i1 x2 _=>qaa list_0 many_1 i1 x2 )
   (fun s fr' h'=>fr' 0=lst cI list_0∧fr' 1 = .int .i64 many_1∧fr' 7=lst cI list_0∧Sep h' (geL h.length) ([])) hX5 ⟨zf0,zf1,rfl,hS⟩ (by simp only [B0,reduceIte,
   reduceEqDiff]) (by simp only [B0,reduceIte,reduceEqDiff]) (fun _ _ _ h=>h) rfl rfl (fun _ _ _ _ h=>h) (fun _ _ _ _ h=>h) (fun _ _ _ _ h=>h) (by decide) ?_ ?_
 ·rintro i1 x2 _ fr15 h16 hx21 ⟨f18,f19,f20,hS17⟩ f22 f23 oc4 hF7 hr8 Q9 hN10 hB14 hK11 hR12 hE13
  unfold qaa at hF7
  simp only [qwy,qf,qe,f22,qd,f20,jz,B0,reduceIte,reduceEqDiff]
  refine qh (v := .ref (cI x2) 0) (wn hx21 rfl) ?_
  simp only [qn,B0,reduceIte,reduceEqDiff]
  refine qh (v := .int .i64 x2) rfl ?_
  simp only [qd,qa,qxb,qf,qe,f19,qy,qb,qc7,zd,B0,reduceIte,reduceEqDiff]
  refine j6 rfl (ql qq (ql qq (ql qq zh))) (wj (fun b hb=>decide_eq_true hb) x2 0 (IntKind.wrap .i64 (many_1 - 1)) _ rfl) ?_
  simp only [jy,qb,kw,qd,B0,reduceIte,reduceEqDiff]
  obtain ⟨v27,hx28,hF29⟩:=qi hF7
  refine z8 12 (fun fr' h'=>Sep h' (geL h.length) ([])∧fr' 31 = .bool v27∧fr' 0=lst cI list_0∧fr' 1 = .int .i64 many_1∧fr' 7=lst cI list_0∧fr' 8 = .int .i64
    (List.length list_0:Int)∧fr' 9 = .int .i64 (i1:Int)) (fun Q24 hN25=>?_) ?_
  ·simp only [List.take_succ_cons,List.take_zero]
   simp only [qc (g:=19),B0,reduceIte,reduceEqDiff]
   refine zb (t:=(!(zp x2 0 (IntKind.wrap .i64 (many_1 - 1))))) (fun hg26=>?_) (fun hg26=>?_)
   ·rw [iteT hg26] at hx28
    simp only [hg26,qc (g:=19),zv,qc (g:=22),qgv,qu,qb,zf,qa,qk,B0,reduceIte,reduceEqDiff]
    have e30:=qj hx28
    exact hN25 _ _ ⟨hS17,by rw [←e30]; simp only [B0,reduceIte,reduceEqDiff],f18,f19,f20,f23,f22⟩
   ·rw [iteF hg26] at hx28
    simp only [hg26,qc (g:=19),qr,qd,qy,qb,qd5,B0,reduceIte,reduceEqDiff]
    obtain ⟨v34,hx35,hF36⟩:=qi hx28
    refine z8 8 (fun fr' h'=>Sep h' (geL h.length)
      ([])∧fr' 30 = .bool v34∧fr' 0=lst cI list_0∧fr' 1 = .int .i64 many_1∧fr' 7=lst cI list_0∧fr' 8 = .int .i64
      (List.length list_0:Int)∧fr' 9 = .int .i64 (i1:Int)∧fr' 19 = .bool (!(zp x2 0 (IntKind.wrap .i64 (many_1 - 1))))) (fun Q31 hN32=>?_) ?_
    ·simp only [List.take_succ_cons,List.take_zero]
     simp only [qc (g:=22),B0,reduceIte,reduceEqDiff]
     refine zb (t:=(decide ((0:Int)<(i1:Int)))) (fun hg33=>?_) (fun hg33=>?_)
     ·rw [iteT hg33] at hx35
      obtain ⟨x37,hx38,hF39⟩:=qi hx35
      simp only [hg33,qc (g:=22),zk,f18,qd,qy,qb,qc7,jz,B0,reduceIte,reduceEqDiff]
      refine qh (v := .ref (cI x37) 0) (y8 hx38 rfl) ?_
      simp only [hg33,qc (g:=22),zk,qn,B0,reduceIte,reduceEqDiff]
      refine qh (v := .int .i64 x37) rfl ?_
      simp only [hg33,qc (g:=22),zk,qd,qy,qb,qj0,hg26,qc (g:=19),qr,qu,zf,qa,qk,
        B0,reduceIte,reduceEqDiff]
      have e40:=qj hF39
      exact hN32 _ _ ⟨hS17,by rw [←e40]; simp only [B0,reduceIte,reduceEqDiff],f18,f19,f20,f23,f22,by simp only [hg26,B0,reduceIte,reduceEqDiff]⟩
     ·rw [iteF hg33] at hx35
      simp only [hg33,qc (g:=22),j5,hg26,qc (g:=19),qr,qu,qb,zg,qa,qk,B0,reduceIte,
        reduceEqDiff]
      have e41:=qj hx35
      exact hN32 _ _ ⟨hS17,by rw [←e41]; simp only [B0,reduceIte,reduceEqDiff],f18,f19,f20,f23,f22,by simp only [hg26,B0,reduceIte,reduceEqDiff]⟩
    rintro fr42 h50 ⟨hS51,f43,f44,f45,f46,f47,f48,f49⟩
    simp only [List.drop_succ_cons,List.drop_zero]
    simp only [f49,hg26,qu,qb,zg,f43,qa,qk,B0,reduceIte,reduceEqDiff]
    have e52:=qj hF36
    exact hN25 _ _ ⟨hS51,by rw [←e52]; simp only [B0,reduceIte,reduceEqDiff],f44,f45,f46,f47,f48⟩
  rintro fr53 h60 ⟨hS61,f54,f55,f56,f57,f58,f59⟩
  simp only [List.drop_succ_cons,List.drop_zero]
  simp only [qa,f54,q9,B0,reduceIte,reduceEqDiff]
  refine q8 (t:=v27) (fun hc62=>?_) (fun hc62=>?_)
  ·rw [iteT hc62] at hF29
   simp only [qf,qe,qd,qa,qz,B0,reduceIte,reduceEqDiff]
   have e63:=qj hF29
   subst e63
   have ho64:=hr8 _ rfl
   have hk65:=hk6
   rw [ho64] at hk65
   dsimp only [jnO] at hk65
   apply hR12
   have he:=qj hk65
   subst he
   simp only [ze,B0,reduceIte,reduceEqDiff]
   exact rfl
  rw [iteF hc62] at hF29
  simp only [zi,qk,B0,reduceIte,reduceEqDiff]
  have e66:=qj hF29
  exact hN10 _ _ _ e66.symm ⟨f55,f56,f57,hS61⟩ (f59) (f58)
 rintro _ fr68 h69 rfl ⟨f71,f72,f73,hS70⟩
 dsimp only [jnO] at hk6
 unfold qdy at hk6
 simp only [qf,qe,qd,qa,qz,B0,reduceIte,reduceEqDiff]
 have he:=qj hk6
 subst he
 simp only [ze,B0,reduceIte,reduceEqDiff]
 exact rfl
theorem qg8 {W:Nat→Bool}{h:Heap} (hW:∀ b,
  (geL h.length) b→W b=true) (s_0:List Int) (v_1:Int) (r:Int) (hF:qa0 s_0 v_1=some r) : Ret E W 94 [lst cI s_0,
  .int .i64 v_1] h (fun v h'=>cut h.length h' E.sz false 9 v=some (.int .i64 r)):=by
 refine Ret.of (fn:=x94) rfl (Run.of ?_)
 unfold qa0 at hF
 have zf0:zc [lst cI s_0,.int .i64 v_1] 0=lst cI s_0:=rfl
 have zf1:zc [lst cI s_0,.int .i64 v_1] 1 = .int .i64 v_1:=rfl
 generalize zc [lst cI s_0,.int .i64 v_1]=fr0 at zf0 zf1 ⊢
 have hS:Sep h (geL h.length) []:=Sep.nil h
 simp only [x94,qf,qe,qd,qa,qyg,zf0,zw,qb,jh,B0,reduceIte,reduceEqDiff]
 obtain ⟨oc3,hX5,hk6⟩:=ki hF
 simp only [q0e]
 refine wq (σ:=Unit) s_0 (fun i1 x2 _=>wy v_1 i1 x2 ) (fun s fr' h'=>fr' 0=lst cI s_0∧fr' 1 = .int .i64 v_1∧Sep h' (geL h.length)
   ([])) hX5 ⟨zf0,zf1,hS⟩ (by simp only [B0,reduceIte,reduceEqDiff]) (by simp only [B0,reduceIte,
   reduceEqDiff]) (fun _ _ _ h=>h) rfl rfl (fun _ _ _ _ h=>h) (fun _ _ _ _ h=>h) (fun _ _ _ _ h=>h) (by decide) ?_ ?_
 ·rintro i1 x2 _ fr15 h16 hx20 ⟨f18,f19,hS17⟩ f21 f22 oc4 hF7 hr8 Q9 hN10 hB14 hK11 hR12 hE13
  unfold wy at hF7
  simp only [qz8,qf,qe,f21,qd,qa,qzw,f19,f18,jz,B0,reduceIte,reduceEqDiff]
  refine qh (v := .ref (cI x2) 0) (wn hx20 rfl) ?_
  simp only [qn,B0,reduceIte,reduceEqDiff]
  refine qh (v := .int .i64 x2) rfl ?_
  simp only [qy,qb,yo,qa,qwp,q9,B0,reduceIte,reduceEqDiff]
  refine q8 (t:=(decide (v_1=x2))) (fun hc23=>?_) (fun hc23=>?_)
  ·rw [iteT hc23] at hF7
   simp only [qf,qe,qd,qa,qz,B0,reduceIte,reduceEqDiff]
   have e24:=qj hF7
   subst e24
   have ho25:=hr8 _ rfl
   have hk26:=hk6
   rw [ho25] at hk26
   dsimp only [jnO] at hk26
   apply hR12
   have he:=qj hk26
   subst he
   simp only [ze,B0,reduceIte,reduceEqDiff]
   exact rfl
  rw [iteF hc23] at hF7
  simp only [zi,qk,B0,reduceIte,reduceEqDiff]
  have e27:=qj hF7
  exact hN10 _ _ _ e27.symm ⟨f18,f19,hS17⟩ (f21) (f22)
 rintro _ fr29 h30 rfl ⟨f32,f33,hS31⟩
 dsimp only [jnO] at hk6
 unfold qc5 at hk6
 simp only [qf,qe,qd,qa,qz,B0,reduceIte,reduceEqDiff]
 have he:=qj hk6
 subst he
 simp only [ze,B0,reduceIte,reduceEqDiff]
 exact rfl
theorem qaq {W:Nat→Bool}{h:Heap} (hW:∀ b,
  (geL h.length) b→W b=true) (s_0:List Int) (v_1:Int) (r:Bool) (hF:ky s_0 v_1=some r) : Ret E W 81 [lst cI s_0,
  .int .i64 v_1] h (fun v h'=>cut h.length h' E.sz false 9 v=some (.bool r)):=by
 refine Ret.of (fn:=x81) rfl (Run.of ?_)
 unfold ky at hF
 have zf0:zc [lst cI s_0,.int .i64 v_1] 0=lst cI s_0:=rfl
 have zf1:zc [lst cI s_0,.int .i64 v_1] 1 = .int .i64 v_1:=rfl
 generalize zc [lst cI s_0,.int .i64 v_1]=fr0 at zf0 zf1 ⊢
 have hS:Sep h (geL h.length) []:=Sep.nil h
 obtain ⟨v1,hx2,hF3⟩:=qi hF
 simp only [x81,qf,qe,qd,qa,qzj,zf0,zf1,zd,B0,reduceIte,reduceEqDiff]
 refine j6 rfl (ql jp (ql qq zh)) (qg8 (fun b hb=>decide_eq_true hb) s_0 v_1 v1 hx2) ?_
 simp only [qy,qb,qj0,qd,qa,qz,B0,reduceIte,reduceEqDiff]
 have he:=qj hF3
 subst he
 simp only [ze,B0,reduceIte,reduceEqDiff]
 exact rfl
theorem qki {W:Nat→Bool}{h:Heap} (hW:∀ b,
  (geL h.length) b→W b=true) (l_0:List Row) (most_1:Int) (r:Bool) (hF:qb6 l_0 most_1=some r) : Ret E W 82 [lst Row.cells l_0,
  .int .i64 most_1] h (fun v h'=>cut h.length h' E.sz false 9 v=some (.bool r)):=by
 refine Ret.of (fn:=x82) rfl (Run.of ?_)
 unfold qb6 at hF
 have zf0:zc [lst Row.cells l_0,.int .i64 most_1] 0=lst Row.cells l_0:=rfl
 have zf1:zc [lst Row.cells l_0,.int .i64 most_1] 1 = .int .i64 most_1:=rfl
 generalize zc [lst Row.cells l_0,.int .i64 most_1]=fr0 at zf0 zf1 ⊢
 have hS:Sep h (geL h.length) []:=Sep.nil h
 simp only [x82,qf,qe,qd,qa,qz2,qvo,zf0,zw,qb,jh,B0,reduceIte,reduceEqDiff]
 obtain ⟨oc5,hX7,hk8⟩:=ki hF
 simp only [qyv]
 refine wq (σ:=Int) l_0 (fun i3 x4 s53=>uc most_1 i3 x4 s53)
   (fun s fr' h'=>fr' 0=lst Row.cells l_0∧fr' 1 = .int .i64 most_1∧fr' 5 = .int .i64 s∧fr' 8=lst Row.cells l_0∧Sep h' (geL h.length) ([])) hX7 ⟨zf0,zf1,rfl,
   rfl,hS⟩ (by simp only [B0,reduceIte,reduceEqDiff]) (by simp only [B0,reduceIte,
   reduceEqDiff]) (fun _ _ _ h=>h) rfl rfl (fun _ _ _ _ h=>h) (fun _ _ _ _ h=>h) (fun _ _ _ _ h=>h) (by decide) ?_ ?_
 ·rintro i3 x4 s2 fr17 h18 hx24 ⟨f20,f21,f22,f23,hS19⟩ f25 f26 oc6 hF9 hr10 Q11 hN12 hB16 hK13 hR14 hE15
  unfold uc at hF9
  simp only [qxh,qf,qe,f23,f25,jz,B0,reduceIte,reduceEqDiff]
  refine qh (v := .ref (Row.cells x4) 0) (wn hx24 rfl) ?_
  simp only [qn,B0,reduceIte,reduceEqDiff]
  refine qh (v := .agg [.int .i64 x4.Epoch,.int .i64 x4.Value]) rfl ?_
  simp only [jt,B0,reduceIte,reduceEqDiff]
  refine jc hS19 (fun b27 h28 hS29=>?_)
  simp only [zm,B0,reduceIte,reduceEqDiff]
  refine za (us:=[.int .i64 x4.Epoch,.int .i64 x4.Value]) rfl (cs':=[.int .i64 x4.Epoch,
    .int .i64 x4.Value]) hS29 hW rfl rfl (Nat.le_of_ble_eq_true rfl) rfl (fun h31 hS32=>?_)
  simp only [qa,B0,reduceIte,reduceEqDiff]
  refine jm hS32 hW (by simp only [B0,reduceIte,reduceEqDiff]) (fun h33 hS34=>?_)
  simp only [jb,qur,qf,qe,qt,qb,Nat.reduceAdd,Nat.zero_add,Nat.add_zero,qv,qn,B0,reduceIte,reduceEqDiff]
  refine qh (v := .int .i64 x4.Epoch) rfl ?_
  simp only [f22,qd,f21,zd,B0,reduceIte,reduceEqDiff]
  refine j6 rfl (ql qq (ql qq (ql qq zh))) (wj (fun b hb=>decide_eq_true hb) x4.Epoch s2 most_1 _ rfl) ?_
  simp only [jy,qb,kw,qd,B0,reduceIte,reduceEqDiff]
  refine z8 5 (fun fr' h'=>Sep h' (geL h.length) ([])∧fr' 25 = .bool ((!(zp x4.Epoch s2 most_1)) ||
    (!(zp x4.Value 0 99)))∧fr' 0=lst Row.cells l_0∧fr' 1 = .int .i64 most_1∧fr' 7 = .ref [.int .i64 x4.Epoch,
    .int .i64 x4.Value] 0∧fr' 8=lst Row.cells l_0∧fr' 9 = .int .i64 (List.length l_0:Int)∧fr' 10 = .int .i64 (i3:Int)) (fun Q35 hN36=>?_) ?_
  ·simp only [List.take_succ_cons,List.take_zero]
   simp only [qc (g:=20),B0,reduceIte,reduceEqDiff]
   refine zb (t:=(!(zp x4.Epoch s2 most_1))) (fun hg37=>?_) (fun hg37=>?_)
   ·simp only [hg37,qc (g:=20),zv,qu,qb,zf,qa,qk,B0,reduceIte,reduceEqDiff]
    exact hN36 _ _ ⟨hS34,by rw [orT hg37]; simp only [B0,reduceIte,reduceEqDiff],f20,f21,rfl,f23,f26,f25⟩
   ·simp only [hg37,qc (g:=20),qr,qt,qb,Nat.reduceAdd,Nat.zero_add,Nat.add_zero,qv,qn,B0,reduceIte,reduceEqDiff]
    refine qh (v := .int .i64 x4.Value) rfl ?_
    simp only [hg37,qc (g:=20),qr,zd,B0,reduceIte,reduceEqDiff]
    refine j6 rfl (ql qq (ql qq (ql qq zh))) (wj (fun b hb=>decide_eq_true hb) x4.Value 0 99 _ rfl) ?_
    simp only [hg37,qc (g:=20),qr,jy,qb,kw,qu,zg,qa,qk,B0,reduceIte,reduceEqDiff]
    exact hN36 _ _ ⟨hS34,by rw [orF hg37]; simp only [B0,reduceIte,reduceEqDiff],f20,f21,rfl,f23,f26,f25⟩
  rintro fr38 h46 ⟨hS47,f39,f40,f41,f42,f43,f44,f45⟩
  simp only [List.drop_succ_cons,List.drop_zero]
  simp only [qa,f39,q9,B0,reduceIte,reduceEqDiff]
  refine q8 (t:=((!(zp x4.Epoch s2 most_1))||(!(zp x4.Value 0 99)))) (fun hc48=>?_) (fun hc48=>?_)
  ·rw [iteT hc48] at hF9
   simp only [qf,qe,qd,qa,qz,B0,reduceIte,reduceEqDiff]
   have e49:=qj hF9
   subst e49
   have ho50:=hr10 _ rfl
   have hk51:=hk8
   rw [ho50] at hk51
   dsimp only [jnO] at hk51
   apply hR14
   have he:=qj hk51
   subst he
   simp only [ze,B0,reduceIte,reduceEqDiff]
   exact rfl
  rw [iteF hc48] at hF9
  simp only [zi,qe,f42,qt,qb,Nat.reduceAdd,Nat.zero_add,Nat.add_zero,qv,qn,B0,reduceIte,reduceEqDiff]
  refine qh (v := .int .i64 x4.Epoch) rfl ?_
  simp only [qd,qa,qk,B0,reduceIte,reduceEqDiff]
  have e52:=qj hF9
  exact hN12 _ _ _ e52.symm ⟨f40,f41,rfl,f43,hS47⟩ (f45) (f44)
 rintro s54 fr55 h56 rfl ⟨f58,f59,f60,f61,hS57⟩
 dsimp only [jnO] at hk8
 unfold qfr at hk8
 simp only [qxt,qf,qe,f58,qd,zw,qb,jh,qy,qjq,qa,qz,B0,reduceIte,reduceEqDiff]
 have he:=qj hk8
 subst he
 simp only [ze,B0,reduceIte,reduceEqDiff]
 exact rfl
theorem qby {W:Nat→Bool}{h:Heap} (hW:∀ b,
  (geL h.length) b→W b=true) (k:Nat) (v_0:Group) (r:Bool) (hF:ws k v_0=some r) : Ret E W 52 [.agg [.int .i64 v_0.Epoch,.int .i64 v_0.Leader,
  lst cI v_0.InStep,.int .i64 v_0.High,lst Replica.cells v_0.Replicas]] h (fun v h'=>cut h.length h' E.sz false 9 v=some (.bool r)):=by
 refine Ret.of (fn:=x52) rfl (Run.of ?_)
 unfold ws at hF
 have zf0:zc [.agg [.int .i64 v_0.Epoch,.int .i64 v_0.Leader,lst cI v_0.InStep,.int .i64 v_0.High,lst Replica.cells v_0.Replicas]] 0 = .agg [.int .i64 v_0.Epoch,
   .int .i64 v_0.Leader,lst cI v_0.InStep,.int .i64 v_0.High,lst Replica.cells v_0.Replicas]:=rfl
 generalize zc [.agg [.int .i64 v_0.Epoch,.int .i64 v_0.Leader,lst cI v_0.InStep,.int .i64 v_0.High,lst Replica.cells v_0.Replicas]]=fr0 at zf0 ⊢
 have hS:Sep h (geL h.length) []:=Sep.nil h
 simp only [x52,qf,qe,wu,zf0,B0,reduceIte,reduceEqDiff]
 refine yj (cs:=[.int .i64 v_0.Epoch,.int .i64 v_0.Leader,lst cI v_0.InStep,.int .i64 v_0.High,lst Replica.cells v_0.Replicas]) hS rfl rfl rfl (fun b1 h2 hS3=>?_)
 simp only [qd,qa,B0,reduceIte,reduceEqDiff]
 refine jm hS3 hW (by simp only [B0,reduceIte,reduceEqDiff]) (fun h5 hS6=>?_)
 simp only [jb,qvg,qf,qe,qt,qb,Nat.reduceAdd,Nat.zero_add,Nat.add_zero,qv,qn,B0,reduceIte,reduceEqDiff]
 refine qh (v:=lst Replica.cells v_0.Replicas) rfl ?_
 simp only [zw,qb,jh,qd,qa,qui,qf,qe,zd,B0,reduceIte,reduceEqDiff]
 refine j6 rfl (ql qq (ql qq (ql qq zh))) (wj (fun b hb=>decide_eq_true hb) (List.length v_0.Replicas:Int) 2 4 _ rfl) ?_
 simp only [jy,qb,kw,qd,B0,reduceIte,reduceEqDiff]
 refine z8 5 (fun fr' h'=>Sep h' (geL h.length) ([])∧fr' 17 = .bool ((!(zp (List.length v_0.Replicas:Int) 2 4)) ||
   (!(zp v_0.Epoch 0 100)))∧fr' 1 = .ref [.int .i64 v_0.Epoch,.int .i64 v_0.Leader,lst cI v_0.InStep,.int .i64 v_0.High,
   lst Replica.cells v_0.Replicas] 0∧fr' 3 = .int .i64 (List.length v_0.Replicas:Int)) (fun Q7 hN8=>?_) ?_
 ·simp only [List.take_succ_cons,List.take_zero]
  simp only [qc (g:=12),B0,reduceIte,reduceEqDiff]
  refine zb (t:=(!(zp (List.length v_0.Replicas:Int) 2 4))) (fun hg9=>?_) (fun hg9=>?_)
  ·simp only [hg9,qc (g:=12),zv,qu,qb,zf,qa,qk,B0,reduceIte,reduceEqDiff]
   exact hN8 _ _ ⟨hS6,by rw [orT hg9]; simp only [B0,reduceIte,reduceEqDiff],rfl,rfl⟩
  ·simp only [hg9,qc (g:=12),qr,qt,qb,Nat.reduceAdd,Nat.zero_add,Nat.add_zero,qv,qn,B0,reduceIte,reduceEqDiff]
   refine qh (v := .int .i64 v_0.Epoch) rfl ?_
   simp only [hg9,qc (g:=12),qr,zd,B0,reduceIte,reduceEqDiff]
   refine j6 rfl (ql qq (ql qq (ql qq zh))) (wj (fun b hb=>decide_eq_true hb) v_0.Epoch 0 100 _ rfl) ?_
   simp only [hg9,qc (g:=12),qr,jy,qb,kw,qu,zg,qa,qk,B0,reduceIte,reduceEqDiff]
   exact hN8 _ _ ⟨hS6,by rw [orF hg9]; simp only [B0,reduceIte,reduceEqDiff],rfl,rfl⟩
 rintro fr10 h14 ⟨hS15,f11,f12,f13⟩
 simp only [List.drop_succ_cons,List.drop_zero]
 simp only [f11,qd,B0,reduceIte,reduceEqDiff]
 refine z8 7 (fun fr' h'=>Sep h' (geL h.length) ([])∧fr' 25 = .bool (((!(zp (List.length v_0.Replicas:Int) 2 4))||(!(zp v_0.Epoch 0 100))) ||
   (!(zp v_0.Leader 0 (IntKind.wrap .i64 ((List.length v_0.Replicas:Int) - 1)))))∧fr' 1 = .ref [.int .i64 v_0.Epoch,.int .i64 v_0.Leader,lst cI v_0.InStep,
   .int .i64 v_0.High,lst Replica.cells v_0.Replicas] 0∧fr' 3 = .int .i64 (List.length v_0.Replicas:Int)) (fun Q16 hN17=>?_) ?_
 ·simp only [List.take_succ_cons,List.take_zero]
  simp only [qc (g:=18),B0,reduceIte,reduceEqDiff]
  refine zb (t:=((!(zp (List.length v_0.Replicas:Int) 2 4))||(!(zp v_0.Epoch 0 100)))) (fun hg18=>?_) (fun hg18=>?_)
  ·simp only [hg18,qc (g:=18),zv,qu,qb,zf,qa,qk,B0,reduceIte,reduceEqDiff]
   exact hN17 _ _ ⟨hS15,by rw [orT hg18]; simp only [B0,reduceIte,reduceEqDiff],f12,f13⟩
  ·simp only [hg18,qc (g:=18),qr,f12,qt,qb,Nat.reduceAdd,Nat.zero_add,Nat.add_zero,qv,qn,B0,reduceIte,reduceEqDiff]
   refine qh (v := .int .i64 v_0.Leader) rfl ?_
   simp only [hg18,qc (g:=18),qr,f13,qd,qy,qb,qc7,zd,B0,reduceIte,reduceEqDiff]
   refine j6 rfl (ql qq (ql qq (ql qq zh))) (wj (fun b hb=>decide_eq_true hb) v_0.Leader 0 (IntKind.wrap .i64
     ((List.length v_0.Replicas:Int) - 1)) _ rfl) ?_
   simp only [hg18,qc (g:=18),qr,jy,qb,kw,qu,zg,qa,qk,B0,reduceIte,reduceEqDiff]
   exact hN17 _ _ ⟨hS15,by rw [orF hg18]; simp only [B0,reduceIte,reduceEqDiff],f12,f13⟩
 rintro fr19 h23 ⟨hS24,f20,f21,f22⟩
 simp only [List.drop_succ_cons,List.drop_zero]
 simp only [f20,qd,B0,reduceIte,reduceEqDiff]
 obtain ⟨v28,hx29,hF30⟩:=qi hF
 refine z8 6 (fun fr' h'=>Sep h' (geL h.length) ([])∧fr' 32 = .bool v28∧fr' 1 = .ref [.int .i64 v_0.Epoch,.int .i64 v_0.Leader,lst cI v_0.InStep,.int .i64 v_0.High,
   lst Replica.cells v_0.Replicas] 0) (fun Q25 hN26=>?_) ?_
 ·simp only [List.take_succ_cons,List.take_zero]
  simp only [qc (g:=26),B0,reduceIte,reduceEqDiff]
  refine zb (t:=(((!(zp (List.length v_0.Replicas:Int) 2 4))||(!(zp v_0.Epoch 0 100)))||(!(zp v_0.Leader 0 (IntKind.wrap .i64
    ((List.length v_0.Replicas:Int) - 1)))))) (fun hg27=>?_) (fun hg27=>?_)
  ·rw [iteT hg27] at hx29
   simp only [hg27,qc (g:=26),zv,qu,qb,zf,qa,qk,B0,reduceIte,reduceEqDiff]
   have e31:=qj hx29
   exact hN26 _ _ ⟨hS24,by rw [←e31]; simp only [B0,reduceIte,reduceEqDiff],f21⟩
  ·rw [iteF hg27] at hx29
   simp only [hg27,qc (g:=26),qr,f21,qt,qb,Nat.reduceAdd,Nat.zero_add,Nat.add_zero,qv,qn,B0,reduceIte,reduceEqDiff]
   refine qh (v:=lst cI v_0.InStep) rfl ?_
   obtain ⟨v32,hx33,hF34⟩:=qi hx29
   simp only [hg27,qc (g:=26),qr,f22,qd,zd,B0,reduceIte,reduceEqDiff]
   refine j6 rfl (ql jp (ql qq zh)) (qhk (fun b hb=>decide_eq_true hb) v_0.InStep (List.length v_0.Replicas:Int) v32 hx33) ?_
   simp only [hg27,qc (g:=26),qr,jy,qb,kw,qu,zg,qa,qk,B0,reduceIte,reduceEqDiff]
   have e35:=qj hF34
   exact hN26 _ _ ⟨hS24,by rw [←e35]; simp only [B0,reduceIte,reduceEqDiff],f21⟩
 rintro fr36 h39 ⟨hS40,f37,f38⟩
 simp only [List.drop_succ_cons,List.drop_zero]
 simp only [f37,qd,B0,reduceIte,reduceEqDiff]
 obtain ⟨v44,hx45,hF46⟩:=qi hF30
 refine z8 7 (fun fr' h'=>Sep h' (geL h.length) ([])∧fr' 40 = .bool v44∧fr' 1 = .ref [.int .i64 v_0.Epoch,.int .i64 v_0.Leader,lst cI v_0.InStep,.int .i64 v_0.High,
   lst Replica.cells v_0.Replicas] 0) (fun Q41 hN42=>?_) ?_
 ·simp only [List.take_succ_cons,List.take_zero]
  simp only [qc (g:=33),B0,reduceIte,reduceEqDiff]
  refine zb (t:=v28) (fun hg43=>?_) (fun hg43=>?_)
  ·rw [iteT hg43] at hx45
   simp only [hg43,qc (g:=33),zv,qu,qb,zf,qa,qk,B0,reduceIte,reduceEqDiff]
   have e47:=qj hx45
   exact hN42 _ _ ⟨hS40,by rw [←e47]; simp only [B0,reduceIte,reduceEqDiff],f38⟩
  ·rw [iteF hg43] at hx45
   simp only [hg43,qc (g:=33),qr,f38,qt,qb,Nat.reduceAdd,Nat.zero_add,Nat.add_zero,qv,qn,B0,reduceIte,reduceEqDiff]
   refine qh (v:=lst cI v_0.InStep) rfl ?_
   simp only [hg43,qc (g:=33),qr,f38,qt,qb,Nat.reduceAdd,Nat.zero_add,Nat.add_zero,qv,qn,B0,reduceIte,reduceEqDiff]
   refine qh (v := .int .i64 v_0.Leader) rfl ?_
   obtain ⟨v48,hx49,hF50⟩:=qi hx45
   simp only [hg43,qc (g:=33),qr,zd,B0,reduceIte,reduceEqDiff]
   refine j6 rfl (ql jp (ql qq zh)) (qaq (fun b hb=>decide_eq_true hb) v_0.InStep v_0.Leader v48 hx49) ?_
   simp only [hg43,qc (g:=33),qr,jy,qb,kw,qu,zg,qa,qk,B0,reduceIte,reduceEqDiff]
   have e51:=qj hF50
   exact hN42 _ _ ⟨hS40,by rw [←e51]; simp only [B0,reduceIte,reduceEqDiff],f38⟩
 rintro fr52 h55 ⟨hS56,f53,f54⟩
 simp only [List.drop_succ_cons,List.drop_zero]
 simp only [f53,qd,B0,reduceIte,reduceEqDiff]
 refine z8 4 (fun fr' h'=>Sep h' (geL h.length) ([])∧fr' 45 = .bool (v44||(decide (v_0.High<0)))∧fr' 1 = .ref [.int .i64 v_0.Epoch,.int .i64 v_0.Leader,
   lst cI v_0.InStep,.int .i64 v_0.High,lst Replica.cells v_0.Replicas] 0) (fun Q57 hN58=>?_) ?_
 ·simp only [List.take_succ_cons,List.take_zero]
  simp only [qc (g:=41),B0,reduceIte,reduceEqDiff]
  refine zb (t:=v44) (fun hg59=>?_) (fun hg59=>?_)
  ·simp only [hg59,qc (g:=41),zv,qu,qb,zf,qa,qk,B0,reduceIte,reduceEqDiff]
   exact hN58 _ _ ⟨hS56,by rw [orT hg59]; simp only [B0,reduceIte,reduceEqDiff],f54⟩
  ·simp only [hg59,qc (g:=41),qr,f54,qt,qb,Nat.reduceAdd,Nat.zero_add,Nat.add_zero,qv,qn,B0,reduceIte,reduceEqDiff]
   refine qh (v := .int .i64 v_0.High) rfl ?_
   simp only [hg59,qc (g:=41),qr,qy,qb,qav,qu,zg,qa,qk,B0,reduceIte,reduceEqDiff]
   exact hN58 _ _ ⟨hS56,by rw [orF hg59]; simp only [B0,reduceIte,reduceEqDiff],f54⟩
 rintro fr60 h63 ⟨hS64,f61,f62⟩
 simp only [List.drop_succ_cons,List.drop_zero]
 simp only [qa,f61,q9,B0,reduceIte,reduceEqDiff]
 refine q8 (t:=(v44||(decide (v_0.High<0)))) (fun hc65=>?_) (fun hc65=>?_)
 ·rw [iteT hc65] at hF46
  simp only [qf,qe,qd,qa,qz,B0,reduceIte,reduceEqDiff]
  have he:=qj hF46
  subst he
  simp only [ze,B0,reduceIte,reduceEqDiff]
  exact rfl
 rw [iteF hc65] at hF46
 simp only [zi,qyb,qf,qe,f62,qt,qb,Nat.reduceAdd,Nat.zero_add,Nat.add_zero,qv,qn,B0,reduceIte,reduceEqDiff]
 refine qh (v:=lst Replica.cells v_0.Replicas) rfl ?_
 simp only [zw,qb,jh,qd,qa,B0,reduceIte,reduceEqDiff]
 obtain ⟨oc68,hX70,hk71⟩:=ki hF46
 simp only [qxd]
 refine wq (σ:=Unit) v_0.Replicas (fun i66 x67 _=>u0 k v_0 i66 x67 ) (fun s fr' h'=>fr' 1 = .ref [.int .i64 v_0.Epoch,.int .i64 v_0.Leader,
   lst cI v_0.InStep,.int .i64 v_0.High,lst Replica.cells v_0.Replicas] 0∧fr' 47=lst Replica.cells v_0.Replicas∧Sep h' (geL h.length) ([])) hX70 ⟨f62,rfl,
   hS64⟩ (by simp only [B0,reduceIte,reduceEqDiff]) (by simp only [B0,reduceIte,
   reduceEqDiff]) (fun _ _ _ h=>h) rfl rfl (fun _ _ _ _ h=>h) (fun _ _ _ _ h=>h) (fun _ _ _ _ h=>h) (by decide) ?_ ?_
 ·rintro i66 x67 _ fr80 h81 hx85 ⟨f83,f84,hS82⟩ f86 f87 oc69 hF72 hr73 Q74 hN75 hB79 hK76 hR77 hE78
  unfold u0 at hF72
  simp only [qwl,qf,qe,f86,qd,f84,jz,B0,reduceIte,reduceEqDiff]
  refine qh (v := .ref (Replica.cells x67) 0) (wn hx85 rfl) ?_
  simp only [qn,B0,reduceIte,reduceEqDiff]
  refine qh (v := .agg [lst Row.cells x67.Log,.int .i64 x67.Epoch,.int .i64 x67.Known]) rfl ?_
  simp only [jt,B0,reduceIte,reduceEqDiff]
  refine jc hS82 (fun b88 h89 hS90=>?_)
  simp only [qd,zm,B0,reduceIte,reduceEqDiff]
  refine za (us:=[lst Row.cells x67.Log,.int .i64 x67.Epoch,.int .i64 x67.Known]) rfl (cs':=[lst Row.cells x67.Log,.int .i64 x67.Epoch,
    .int .i64 x67.Known]) hS90 hW rfl rfl (Nat.le_of_ble_eq_true rfl) rfl (fun h92 hS93=>?_)
  simp only [qa,B0,reduceIte,reduceEqDiff]
  refine jm hS93 hW (by simp only [B0,reduceIte,reduceEqDiff]) (fun h94 hS95=>?_)
  simp only [jb,qw6,qf,jf,zr,qg,Nat.reduceAdd,Nat.zero_add,Nat.add_zero,qv,zl,B0,reduceIte,reduceEqDiff]
  refine qp (v:=lst Row.cells x67.Log) rfl ?_
  simp only [f83,zr,qg,Nat.reduceAdd,Nat.zero_add,Nat.add_zero,qv,zl,B0,reduceIte,reduceEqDiff]
  refine qp (v := .int .i64 v_0.Epoch) rfl ?_
  obtain ⟨v96,hx97,hF98⟩:=qi hF72
  simp only [wl,B0,reduceIte,reduceEqDiff]
  refine qdv rfl (ql jp (ql qq zh)) (qki (fun b hb=>decide_eq_true hb) x67.Log v_0.Epoch v96 hx97) ?_
  simp only [qf7,qg,kw,zn,B0,reduceIte,reduceEqDiff]
  simp only [qo (g:=60),B0,reduceIte,reduceEqDiff]
  refine jj (t:=(!v96)) (fun hg99=>?_) (fun hg99=>?_)
  ·rw [iteT hg99] at hF98
   simp only [hg99,qo (g:=60),qac,jd,qg,zf,zn,qo (g:=68),qo (g:=77),qo (g:=83),qga,
     qx,q9,qfh,qf,qe,qd,qa,qz,B0,reduceIte,reduceEqDiff]
   have e100:=qj hF98
   subst e100
   have ho101:=hr73 _ rfl
   have hk102:=hk71
   rw [ho101] at hk102
   dsimp only [jnO] at hk102
   apply hR77
   have he:=qj hk102
   subst he
   simp only [ze,B0,reduceIte,reduceEqDiff]
   exact rfl
  rw [iteF hg99] at hF98
  simp only [hg99,qo (g:=60),z7,zr,qg,Nat.reduceAdd,Nat.zero_add,Nat.add_zero,qv,zl,B0,reduceIte,reduceEqDiff]
  refine qp (v := .int .i64 x67.Epoch) rfl ?_
  simp only [hg99,qo (g:=60),z7,f83,zr,qg,Nat.reduceAdd,Nat.zero_add,Nat.add_zero,qv,zl,B0,reduceIte,reduceEqDiff]
  refine qp (v := .int .i64 v_0.Epoch) rfl ?_
  simp only [hg99,qo (g:=60),z7,wl,B0,reduceIte,reduceEqDiff]
  refine qdv rfl (ql qq (ql qq (ql qq zh))) (wj (fun b hb=>decide_eq_true hb) x67.Epoch 0 v_0.Epoch _ rfl) ?_
  simp only [hg99,qo (g:=60),z7,qf7,qg,kw,jd,zg,zn,B0,reduceIte,reduceEqDiff]
  simp only [qo (g:=68),B0,reduceIte,reduceEqDiff]
  refine jj (t:=(!(zp x67.Epoch 0 v_0.Epoch))) (fun hg103=>?_) (fun hg103=>?_)
  ·rw [iteT hg103] at hF98
   simp only [hg103,qo (g:=68),qac,jd,qg,zf,zn,qo (g:=77),qo (g:=83),qga,qx,q9,
     qfh,qf,qe,qd,qa,qz,B0,reduceIte,reduceEqDiff]
   have e104:=qj hF98
   subst e104
   have ho105:=hr73 _ rfl
   have hk106:=hk71
   rw [ho105] at hk106
   dsimp only [jnO] at hk106
   apply hR77
   have he:=qj hk106
   subst he
   simp only [ze,B0,reduceIte,reduceEqDiff]
   exact rfl
  rw [iteF hg103] at hF98
  simp only [hg103,qo (g:=68),z7,zr,qg,Nat.reduceAdd,Nat.zero_add,Nat.add_zero,qv,zl,B0,reduceIte,reduceEqDiff]
  refine qp (v := .int .i64 x67.Known) rfl ?_
  simp only [hg103,qo (g:=68),z7,zr,qg,Nat.reduceAdd,Nat.zero_add,Nat.add_zero,qv,zl,B0,reduceIte,reduceEqDiff]
  refine qp (v:=lst Row.cells x67.Log) rfl ?_
  simp only [hg103,qo (g:=68),z7,qdw,qg,jh,wl,B0,reduceIte,reduceEqDiff]
  refine qdv rfl (ql qq (ql qq (ql qq zh))) (wj (fun b hb=>decide_eq_true hb) x67.Known 0 (List.length x67.Log:Int) _ rfl) ?_
  simp only [hg103,qo (g:=68),z7,qf7,qg,kw,jd,zg,zn,B0,reduceIte,reduceEqDiff]
  simp only [qo (g:=77),B0,reduceIte,reduceEqDiff]
  refine jj (t:=(!(zp x67.Known 0 (List.length x67.Log:Int)))) (fun hg107=>?_) (fun hg107=>?_)
  ·rw [iteT hg107] at hF98
   simp only [hg107,qo (g:=77),qac,qo (g:=83),qga,jd,qg,zf,qx,q9,qfh,qf,qe,
     qd,qa,qz,B0,reduceIte,reduceEqDiff]
   have e108:=qj hF98
   subst e108
   have ho109:=hr73 _ rfl
   have hk110:=hk71
   rw [ho109] at hk110
   dsimp only [jnO] at hk110
   apply hR77
   have he:=qj hk110
   subst he
   simp only [ze,B0,reduceIte,reduceEqDiff]
   exact rfl
  rw [iteF hg107] at hF98
  simp only [hg107,qo (g:=77),z7,zr,qg,Nat.reduceAdd,Nat.zero_add,Nat.add_zero,qv,zl,B0,reduceIte,reduceEqDiff]
  refine qp (v := .int .i64 x67.Epoch) rfl ?_
  simp only [hg107,qo (g:=77),z7,f83,zr,qg,Nat.reduceAdd,Nat.zero_add,Nat.add_zero,qv,zl,B0,reduceIte,reduceEqDiff]
  refine qp (v := .int .i64 v_0.Epoch) rfl ?_
  simp only [hg107,qo (g:=77),z7,yd,qg,yo,zn,B0,reduceIte,reduceEqDiff]
  simp only [qo (g:=83),B0,reduceIte,reduceEqDiff]
  refine jj (t:=(decide (x67.Epoch=v_0.Epoch))) (fun hg111=>?_) (fun hg111=>?_)
  ·rw [iteT hg111] at hF98
   simp only [hg111,qo (g:=83),zj,qa1,qg,Nat.reduceAdd,Nat.zero_add,Nat.add_zero,qv,qai,xv,B0,reduceIte,reduceEqDiff]
   refine qp (v := .int .i64 x67.Known) rfl ?_
   simp only [hg111,qo (g:=83),zj,f83,zl,B0,reduceIte,reduceEqDiff]
   refine qp (v := .agg [.int .i64 v_0.Epoch,.int .i64 v_0.Leader,lst cI v_0.InStep,.int .i64 v_0.High,lst Replica.cells v_0.Replicas]) rfl ?_
   obtain ⟨v112,hx113,hF114⟩:=qi hF98
   simp only [hg111,qo (g:=83),zj,zn,qg,qbc,B0,reduceIte,reduceEqDiff]
   refine qgx rfl (ql (kd (ql qq (ql qq (ql jp (ql qq (ql jp zh)))))) (ql qq zh)) (w6
     (fun b hb=>decide_eq_true hb) k v_0 (i66:Int) v112 hx113) ?_
   simp only [hg111,qo (g:=83),zj,yd,qg,qd5,hg107,qo (g:=77),z7,jd,zf,zg,qx,q9,
     B0,reduceIte,reduceEqDiff]
   refine q8 (t:=(decide (v112<x67.Known))) (fun hc115=>?_) (fun hc115=>?_)
   ·rw [iteT hc115] at hF114
    simp only [qf,qe,qd,qa,qz,B0,reduceIte,reduceEqDiff]
    have e116:=qj hF114
    subst e116
    have ho117:=hr73 _ rfl
    have hk118:=hk71
    rw [ho117] at hk118
    dsimp only [jnO] at hk118
    apply hR77
    have he:=qj hk118
    subst he
    simp only [ze,B0,reduceIte,reduceEqDiff]
    exact rfl
   rw [iteF hc115] at hF114
   simp only [zi,qn0,qf,jf,f83,zr,qg,Nat.reduceAdd,Nat.zero_add,Nat.add_zero,qv,zl,B0,reduceIte,reduceEqDiff]
   refine qp (v:=lst cI v_0.InStep) rfl ?_
   obtain ⟨v119,hx120,hF121⟩:=qi hF114
   simp only [zn,qg,wl,B0,reduceIte,reduceEqDiff]
   refine qdv rfl (ql jp (ql qq zh)) (qaq (fun b hb=>decide_eq_true hb) v_0.InStep (i66:Int) v119 hx120) ?_
   simp only [zn,qg,B0,reduceIte,reduceEqDiff]
   simp only [qo (g:=96),B0,reduceIte,reduceEqDiff]
   refine jj (t:=v119) (fun hg122=>?_) (fun hg122=>?_)
   ·rw [iteT hg122] at hF121
    simp only [hg122,qo (g:=96),zj,f83,qa1,qg,Nat.reduceAdd,Nat.zero_add,Nat.add_zero,qv,qai,xv,B0,reduceIte,
      reduceEqDiff]
    refine qp (v := .int .i64 v_0.High) rfl ?_
    simp only [hg122,qo (g:=96),zj,f83,zl,B0,reduceIte,reduceEqDiff]
    refine qp (v := .agg [.int .i64 v_0.Epoch,.int .i64 v_0.Leader,lst cI v_0.InStep,.int .i64 v_0.High,lst Replica.cells v_0.Replicas]) rfl ?_
    obtain ⟨v123,hx124,hF125⟩:=qi hF121
    simp only [hg122,qo (g:=96),zj,zn,qg,qbc,B0,reduceIte,reduceEqDiff]
    refine qgx rfl (ql (kd (ql qq (ql qq (ql jp (ql qq (ql jp zh)))))) (ql qq zh))
      (w6 (fun b hb=>decide_eq_true hb) k v_0 (i66:Int) v123 hx124) ?_
    simp only [hg122,qo (g:=96),zj,yd,qg,qd5,jd,zf,qx,q9,B0,reduceIte,reduceEqDiff]
    refine q8 (t:=(decide (v123<v_0.High))) (fun hc126=>?_) (fun hc126=>?_)
    ·rw [iteT hc126] at hF125
     simp only [qf,qe,qd,qa,qz,B0,reduceIte,reduceEqDiff]
     have e127:=qj hF125
     subst e127
     have ho128:=hr73 _ rfl
     have hk129:=hk71
     rw [ho128] at hk129
     dsimp only [jnO] at hk129
     apply hR77
     have he:=qj hk129
     subst he
     simp only [ze,B0,reduceIte,reduceEqDiff]
     exact rfl
    rw [iteF hc126] at hF125
    simp only [zi,qk,B0,reduceIte,reduceEqDiff]
    have e130:=qj hF125
    exact hN75 _ _ _ e130.symm ⟨f83,f84,hS95⟩ (f86) (f87)
   rw [iteF hg122] at hF121
   simp only [hg122,qo (g:=96),yn,jd,qg,zg,qx,q9,qcz,zi,qk,B0,reduceIte,reduceEqDiff]
   have e131:=qj hF121
   exact hN75 _ _ _ e131.symm ⟨f83,f84,hS95⟩ (f86) (f87)
  rw [iteF hg111] at hF98
  simp only [hg111,qo (g:=83),yn,hg107,qo (g:=77),z7,jd,qg,zg,qx,q9,qcz,zi,
    qn0,qf,jf,f83,zr,Nat.reduceAdd,Nat.zero_add,Nat.add_zero,qv,zl,B0,reduceIte,reduceEqDiff]
  refine qp (v:=lst cI v_0.InStep) rfl ?_
  obtain ⟨v132,hx133,hF134⟩:=qi hF98
  simp only [zn,qg,wl,B0,reduceIte,reduceEqDiff]
  refine qdv rfl (ql jp (ql qq zh)) (qaq (fun b hb=>decide_eq_true hb) v_0.InStep (i66:Int) v132 hx133) ?_
  simp only [zn,qg,B0,reduceIte,reduceEqDiff]
  simp only [qo (g:=96),B0,reduceIte,reduceEqDiff]
  refine jj (t:=v132) (fun hg135=>?_) (fun hg135=>?_)
  ·rw [iteT hg135] at hF134
   simp only [hg135,qo (g:=96),zj,f83,qa1,qg,Nat.reduceAdd,Nat.zero_add,Nat.add_zero,qv,qai,xv,B0,reduceIte,reduceEqDiff]
   refine qp (v := .int .i64 v_0.High) rfl ?_
   simp only [hg135,qo (g:=96),zj,f83,zl,B0,reduceIte,reduceEqDiff]
   refine qp (v := .agg [.int .i64 v_0.Epoch,.int .i64 v_0.Leader,lst cI v_0.InStep,.int .i64 v_0.High,lst Replica.cells v_0.Replicas]) rfl ?_
   obtain ⟨v136,hx137,hF138⟩:=qi hF134
   simp only [hg135,qo (g:=96),zj,zn,qg,qbc,B0,reduceIte,reduceEqDiff]
   refine qgx rfl (ql (kd (ql qq (ql qq (ql jp (ql qq (ql jp zh)))))) (ql qq zh)) (w6
     (fun b hb=>decide_eq_true hb) k v_0 (i66:Int) v136 hx137) ?_
   simp only [hg135,qo (g:=96),zj,yd,qg,qd5,jd,zf,qx,q9,B0,reduceIte,reduceEqDiff]
   refine q8 (t:=(decide (v136<v_0.High))) (fun hc139=>?_) (fun hc139=>?_)
   ·rw [iteT hc139] at hF138
    simp only [qf,qe,qd,qa,qz,B0,reduceIte,reduceEqDiff]
    have e140:=qj hF138
    subst e140
    have ho141:=hr73 _ rfl
    have hk142:=hk71
    rw [ho141] at hk142
    dsimp only [jnO] at hk142
    apply hR77
    have he:=qj hk142
    subst he
    simp only [ze,B0,reduceIte,reduceEqDiff]
    exact rfl
   rw [iteF hc139] at hF138
   simp only [zi,qk,B0,reduceIte,reduceEqDiff]
   have e143:=qj hF138
   exact hN75 _ _ _ e143.symm ⟨f83,f84,hS95⟩ (f86) (f87)
  rw [iteF hg135] at hF134
  simp only [hg135,qo (g:=96),yn,jd,qg,zg,qx,q9,qcz,zi,qk,B0,reduceIte,reduceEqDiff]
  have e144:=qj hF134
  exact hN75 _ _ _ e144.symm ⟨f83,f84,hS95⟩ (f86) (f87)
 rintro _ fr146 h147 rfl ⟨f149,f150,hS148⟩
 dsimp only [jnO] at hk71
 unfold qff at hk71
 simp only [qf,qe,qd,qa,qz,B0,reduceIte,reduceEqDiff]
 have he:=qj hk71
 subst he
 simp only [ze,B0,reduceIte,reduceEqDiff]
 exact rfl
end Go.Proofs.Ytefgfcalgjmhjaa.X
namespace Go.Proofs.Ytefgfcalgjmhjaa.X
open Go
open Nat (reduceEqDiff)
theorem qh7 {W:Nat→Bool}{h:Heap} (hW:∀ b,
  (geL h.length) b→W b=true) (g_0:Group) (r:Group) (hF:qas g_0=some r) : Ret E W 53 [.agg [.int .i64 g_0.Epoch,.int .i64 g_0.Leader,lst cI g_0.InStep,
  .int .i64 g_0.High,lst Replica.cells g_0.Replicas]] h (fun v h'=>∃ rv0_2 rc0_2 rv0_4 rc0_4,v = .agg [.int .i64 r.Epoch,.int .i64 r.Leader,rv0_2,.int .i64 r.High,
  rv0_4]∧SlF cI 1 3 rv0_2 r.InStep rc0_2∧SlN Replica.R 3 51 rv0_4 r.Replicas rc0_4∧Sep h' (geL h.length) (rc0_2++(rc0_4++([])))):=by
 refine Ret.of (fn:=x53) rfl (Run.of ?_)
 unfold qas at hF
 have zf0:zc [.agg [.int .i64 g_0.Epoch,.int .i64 g_0.Leader,lst cI g_0.InStep,.int .i64 g_0.High,lst Replica.cells g_0.Replicas]] 0 = .agg [.int .i64 g_0.Epoch,
   .int .i64 g_0.Leader,lst cI g_0.InStep,.int .i64 g_0.High,lst Replica.cells g_0.Replicas]:=rfl
 generalize zc [.agg [.int .i64 g_0.Epoch,.int .i64 g_0.Leader,lst cI g_0.InStep,.int .i64 g_0.High,lst Replica.cells g_0.Replicas]]=fr0 at zf0 ⊢
 have hS:Sep h (geL h.length) []:=Sep.nil h
 simp only [x53,qf,qe,wu,zf0,B0,reduceIte,reduceEqDiff]
 refine yj (cs:=[.int .i64 g_0.Epoch,.int .i64 g_0.Leader,lst cI g_0.InStep,.int .i64 g_0.High,lst Replica.cells g_0.Replicas]) hS rfl rfl rfl (fun b1 h2 hS3=>?_)
 simp only [jt,B0,reduceIte,reduceEqDiff]
 refine jc hS3 (fun b5 h6 hS7=>?_)
 simp only [qa,B0,reduceIte,reduceEqDiff]
 refine jm (Sep.m1 hS7) hW (by simp only [B0,reduceIte,reduceEqDiff]) (fun h9 hS10=>?_)
 simp only [jb,qvw,qf,jf,qcn,evp,B0,reduceIte,reduceEqDiff]
 refine uu (n:=1) (f:=cI) ([] : List Int) hS10 rfl rfl (fun v11 c12 h13 hv14 hS15=>?_)
 simp only [qku,B0,reduceIte,reduceEqDiff]
 refine qec hS15 (fun b17 h18 hS19=>?_)
 simp only [qa1,qg,Nat.reduceAdd,Nat.zero_add,Nat.add_zero,qv,qai,xv,B0,reduceIte,reduceEqDiff]
 refine qp (v := .int .i64 g_0.Epoch) rfl ?_
 simp only [qa1,qg,Nat.reduceAdd,Nat.zero_add,Nat.add_zero,qv,qai,xv,B0,reduceIte,reduceEqDiff]
 refine qp (v := .int .i64 g_0.Leader) rfl ?_
 simp only [zr,qg,Nat.reduceAdd,Nat.zero_add,Nat.add_zero,qv,zl,B0,reduceIte,reduceEqDiff]
 refine qp (v:=lst cI g_0.InStep) rfl ?_
 simp only [qm9,B0,reduceIte,reduceEqDiff]
 obtain ⟨l21,hx22,hF23⟩:=qi hF
 have hq24:=nwq (fun z hz=>Sep.dj (Sep.m2 (Sep.m2 hS19)) qwx (SlF.rowfp hv14 z hz))
 refine qyj qq0 ?_
 refine qbx (f:=cI) hv14 (Sep.m1 hS19) hW (fun _=>rfl) (fun _=>rfl) (qb4 (fun _=>rfl)) hx22 (fun v25 c26 h27 hv28 hS29=>?_)
 simp only [qa1,qg,Nat.reduceAdd,Nat.zero_add,Nat.add_zero,qv,qai,xv,B0,reduceIte,reduceEqDiff]
 refine qp (v := .int .i64 g_0.High) rfl ?_
 simp only [qh5,evp,B0,reduceIte,reduceEqDiff]
 refine qp (v := .agg [.int .i64 g_0.Epoch,.int .i64 g_0.Leader,v25,.int .i64 g_0.High,
   .nil]) (qdk (qb8 (us:=[.int .i64 g_0.Epoch]) (vs:=[.int .i64 g_0.Epoch,.int .i64 0,.nil,.int .i64 0,
   .nil]) rfl rfl (Nat.le_of_ble_eq_true rfl) rfl rfl (qb8 (us:=[.int .i64 g_0.Leader]) (vs:=[.int .i64 g_0.Epoch,.int .i64 g_0.Leader,.nil,.int .i64 0,
   .nil]) rfl rfl (Nat.le_of_ble_eq_true rfl) rfl rfl (qb8 (us:=[v25]) (vs:=[.int .i64 g_0.Epoch,.int .i64 g_0.Leader,v25,.int .i64 0,
   .nil]) (kr (SlF.one hv28)) rfl (Nat.le_of_ble_eq_true rfl) (qm (SlF.one hv28) zq) rfl (qb8 (us:=[.int .i64 g_0.High]) (vs:=[.int .i64 g_0.Epoch,
   .int .i64 g_0.Leader,v25,.int .i64 g_0.High,.nil]) rfl rfl (Nat.le_of_ble_eq_true rfl) rfl rfl qhe))))) ?_
 simp only [qed,B0,reduceIte,reduceEqDiff]
 refine qbt (us:=[.int .i64 g_0.Epoch,.int .i64 g_0.Leader,v25,.int .i64 g_0.High,.nil]) rfl (cs':=[.int .i64 g_0.Epoch,.int .i64 g_0.Leader,v25,
   .int .i64 g_0.High,.nil]) (Sep.m1 hS29) hW rfl (qm rfl (qm rfl (qm (SlF.one hv28) (qm rfl (qm rfl zq))))) (Nat.le_of_ble_eq_true rfl) rfl
   (fun h31 hS32=>?_)
 simp only [qx,qyi,qf,qe,qt,qb,Nat.reduceAdd,Nat.zero_add,Nat.add_zero,qv,qn,B0,reduceIte,reduceEqDiff]
 refine qh (v:=lst Replica.cells g_0.Replicas) rfl ?_
 simp only [zw,qb,jh,qd,qa,B0,reduceIte,reduceEqDiff]
 obtain ⟨oc45,hX47,hk48⟩:=ki hF23
 simp only [qy3]
 refine wq (σ:=Group) g_0.Replicas (fun i43 x44 s107=>qak l21 i43 x44 s107) (fun s fr' h'=>∃ v40 c41,
   fr' 2 = .ptr b5 0∧fr' 3 = .ptr b17 0∧fr' 18=lst Replica.cells g_0.Replicas∧SlN Replica.R 3 51 v40 s.Replicas c41∧Sep h' (geL h.length) ([Blk1 b5 [.int .i64 0,
   .int .i64 0,.nil,.int .i64 0,.nil] 29]++([Blk1 b17 [.int .i64 s.Epoch,.int .i64 s.Leader,v25,.int .i64 s.High,v40] 29]++(c26++(c41++([])))))) hX47 ⟨.nil,[],
   rfl,rfl,rfl,SlN.nil,((Sep.m2 (Sep.m1 (Sep.m1 hS32))) : Sep _ (geL h.length) ([Blk1 b5 [.int .i64 0,.int .i64 0,.nil,.int .i64 0,
   .nil] 29]++([Blk1 b17 [.int .i64 g_0.Epoch,.int .i64 g_0.Leader,v25,.int .i64 g_0.High,.nil] 29]++(c26++([])))))⟩ (by simp only [B0,reduceIte,
   reduceEqDiff]) (by simp only [B0,reduceIte,reduceEqDiff]) (fun _ _ _ h=>h) rfl rfl (fun _ _ _ _ h=>h) (fun _ _ _ _ h=>h) (fun _ _ _ _ h=>h) (by decide) ?_ ?_
 ·rintro i43 x44 s38 fr57 h58 hx63 ⟨v40,c41,f60,f61,f62,hv42,hS59⟩ f64 f65 oc46 hF49 hr50 Q51 hN52 hB56 hK53 hR54 hE55
  unfold qak at hF49
  simp only [qxy,qf,qe,f62,f64,jz,B0,reduceIte,reduceEqDiff]
  refine qh (v := .ref (Replica.cells x44) 0) (wn hx63 rfl) ?_
  simp only [qn,B0,reduceIte,reduceEqDiff]
  refine qh (v := .agg [lst Row.cells x44.Log,.int .i64 x44.Epoch,.int .i64 x44.Known]) rfl ?_
  simp only [jt,B0,reduceIte,reduceEqDiff]
  refine jc hS59 (fun b66 h67 hS68=>?_)
  simp only [zm,B0,reduceIte,reduceEqDiff]
  refine za (us:=[lst Row.cells x44.Log,.int .i64 x44.Epoch,.int .i64 x44.Known]) rfl (cs':=[lst Row.cells x44.Log,.int .i64 x44.Epoch,
    .int .i64 x44.Known]) hS68 hW rfl rfl (Nat.le_of_ble_eq_true rfl) rfl (fun h70 hS71=>?_)
  simp only [qa,qxa,qf,qe,kz,evp,B0,reduceIte,reduceEqDiff]
  refine j9 (n:=2) (f:=Row.cells) ([] : List Row) hS71 rfl rfl (fun v72 c73 h74 hv75 hS76=>?_)
  simp only [qt,qb,Nat.reduceAdd,Nat.zero_add,Nat.add_zero,qw,qn,B0,reduceIte,reduceEqDiff]
  refine qh (v:=lst Row.cells x44.Log) ((zt (Sep.bk _ _ _ (Sep.m1 hS76))).trans rfl) ?_
  simp only [wv,B0,reduceIte,reduceEqDiff]
  obtain ⟨l78,hx79,hF80⟩:=qi hF49
  refine yv (f:=Row.cells) hv75 hS76 hW (fun _=>rfl) (fun _=>rfl) (qb4 (fun _=>rfl)) hx79 (fun v81 c82 h83 hv84 hS85=>?_)
  simp only [qt,qb,Nat.reduceAdd,Nat.zero_add,Nat.add_zero,qw,zm,B0,reduceIte,reduceEqDiff]
  refine za (us:=[v81]) (kr (SlF.one hv84)) (cs':=[v81,.int .i64 x44.Epoch,
    .int .i64 x44.Known]) (Sep.m1 hS85) hW rfl (qm (SlF.one hv84) zq) (Nat.le_of_ble_eq_true rfl) rfl (fun h87 hS88=>?_)
  simp only [qa,q0d,qe,f61,qt,qb,Nat.reduceAdd,Nat.zero_add,Nat.add_zero,qw,qn,B0,reduceIte,reduceEqDiff]
  refine qh (v:=v40) ((zt (Sep.bk _ _ _ (Sep.m3 hS88))).trans rfl) ?_
  simp only [qn,B0,reduceIte,reduceEqDiff]
  refine qh (v := .agg [v81,.int .i64 x44.Epoch,.int .i64 x44.Known]) ((jg (Sep.bk _ _ _ hS88)).trans rfl) ?_
  simp only [kz,evp,B0,reduceIte,reduceEqDiff]
  refine qg6 (R:=Replica.R) (n:=3) (cs:=[v81,.int .i64 x44.Epoch,.int .i64 x44.Known]) (os:=c82) (Sep.m1 hS88) (qb8 (us:=[v81,.int .i64 x44.Epoch,
    .int .i64 x44.Known]) (vs:=[v81,.int .i64 x44.Epoch,
    .int .i64 x44.Known]) rfl rfl (Nat.le_of_ble_eq_true rfl) (qm (SlF.one hv84) (qm rfl (qm rfl zq))) rfl qhe) (Replica.RI (x :=
    (Replica.mk l78 x44.Epoch x44.Known)) hv84) rfl (fun v89 c90 h91 hv92 hS93=>?_)
  simp only [wv,B0,reduceIte,reduceEqDiff]
  obtain ⟨l95,hx96,hF97⟩:=qi hF80
  refine qj5 (R:=Replica.R) (c:=c41) hv42 hv92 (Sep.m5 hS93) hW Replica.RO.len Replica.RO.one hx96 (fun v98 c99 h100 hv101 hS102=>?_)
  simp only [f61,qt,qb,Nat.reduceAdd,Nat.zero_add,Nat.add_zero,qw,zm,B0,reduceIte,reduceEqDiff]
  refine za (us:=[v98]) (kr (SlN.one hv101)) (cs':=[.int .i64 s38.Epoch,.int .i64 s38.Leader,v25,.int .i64 s38.High,
    v98]) (Sep.m3 hS102) hW rfl (qm (SlN.one hv101) zq) (Nat.le_of_ble_eq_true rfl) rfl (fun h104 hS105=>?_)
  simp only [qa,qk,B0,reduceIte,reduceEqDiff]
  have e106:=qj hF97
  exact hN52 _ _ _ e106.symm ⟨v98,c99,f60,f61,f62,hv101,(Sep.m3 (Sep.m2 (Sep.m3 (Sep.m1 (Sep.dc (Sep.m2 hS105))))))⟩ (f64) (f65)
 rintro s108 fr113 h114 rfl ⟨v110,c111,f116,f117,f118,hv112,hS115⟩
 dsimp only [jnO] at hk48
 unfold qd8 at hk48
 simp only [qf,qe,f117,qn,B0,reduceIte,reduceEqDiff]
 refine qh (v := .agg [.int .i64 s108.Epoch,.int .i64 s108.Leader,v25,.int .i64 s108.High,v110]) ((jg (Sep.bk _ _ _ (Sep.m1 hS115))).trans rfl) ?_
 simp only [f116,zm,B0,reduceIte,reduceEqDiff]
 refine za (us:=[.int .i64 s108.Epoch,.int .i64 s108.Leader,v25,.int .i64 s108.High,v110]) rfl (cs':=[.int .i64 s108.Epoch,.int .i64 s108.Leader,v25,
   .int .i64 s108.High,v110]) hS115 hW rfl (qm rfl (qm rfl (qm (SlF.one hv28) (qm rfl (qm (SlN.one hv112) zq))))) (Nat.le_of_ble_eq_true rfl) rfl
   (fun h119 hS120=>?_)
 simp only [qa,qz,B0,reduceIte,reduceEqDiff]
 have he:=qj hk48
 subst he
 refine qcv (bb:=b5) (oo:=0) (v := .agg [.int .i64 s108.Epoch,.int .i64 s108.Leader,v25,.int .i64 s108.High,v110]) (by simp only [f116,B0,reduceIte,
   reduceEqDiff]) ((jg (Sep.bk _ _ _ hS120)).trans rfl) ?_
 exact ⟨v25,c26,v110,c111,by first | trivial | rfl,hv28,hv112,(Sep.m1 (Sep.m1 (Sep.dc ((Sep.dc (hS120))))))⟩
theorem qaj {W:Nat→Bool}{h:Heap}{lo:Nat→Prop}{S0:List Obj} (hW:∀ b,
  lo b→W b=true) (pb0:Nat) (g_0:Group) (pv0_2:XV) (pc0_2:List Obj) (ph0_2:SlF cI 1 3 pv0_2 g_0.InStep pc0_2) (pv0_4:XV) (pc0_4:List Obj)
  (ph0_4:SlN Replica.R 3 51 pv0_4 g_0.Replicas pc0_4) (k_1:Int) (r:Group) (hF:j8 g_0 k_1=some r) (hS:Sep h lo ([Blk1 pb0 [.int .i64 g_0.Epoch,
  .int .i64 g_0.Leader,pv0_2,.int .i64 g_0.High,pv0_4] 29]++(pc0_2++(pc0_4++(S0))))) : Ret E W 54 [.ptr pb0 0,.int .i64 k_1] h (fun v h'=>∃ ic0_2 ic0_4,
  v = .tup []∧SlF cI 1 3 pv0_2 r.InStep ic0_2∧SlN Replica.R 3 51 pv0_4 r.Replicas ic0_4∧Sep h' lo ([Blk1 pb0 [.int .i64 r.Epoch,.int .i64 r.Leader,pv0_2,
  .int .i64 r.High,pv0_4] 29]++(ic0_2++(ic0_4++(S0))))):=by
 refine Ret.of (fn:=x54) rfl (Run.of ?_)
 unfold j8 at hF
 have zf0:zc [.ptr pb0 0,.int .i64 k_1] 0 = .ptr pb0 0:=rfl
 have zf1:zc [.ptr pb0 0,.int .i64 k_1] 1 = .int .i64 k_1:=rfl
 generalize zc [.ptr pb0 0,.int .i64 k_1]=fr0 at zf0 zf1 ⊢
 simp only [x54,qf,jf,zf0,zn,qg,ko,zu,zr,Nat.reduceAdd,Nat.zero_add,Nat.add_zero,qw,zl,B0,reduceIte,reduceEqDiff]
 refine qp (v:=pv0_4) ((zt (Sep.bk _ _ _ hS)).trans rfl) ?_
 simp only [zf1,zn,qg,zf0,ko,zu,zr,Nat.reduceAdd,Nat.zero_add,Nat.add_zero,qw,zl,B0,reduceIte,reduceEqDiff]
 refine qp (v := .int .i64 g_0.Epoch) ((zt (Sep.bk _ _ _ hS)).trans rfl) ?_
 obtain ⟨x1,hx2,hF3⟩:=qi hF
 simp only [wt,B0,reduceIte,reduceEqDiff]
 obtain ⟨b4,hb5⟩:=SlN.isrow ph0_4 (uf hx2)
 refine qp (SlN.ia ph0_4 hb5 hx2) ?_
 obtain ⟨c8,cs9,os10,hv11,hR12,hS13⟩:=SlG.opn (SlN.toG ph0_4 hb5 Replica.RO.len) hx2 z9 Replica.RO.len (Sep.m2 hS)
 obtain ⟨v15,c16,hv17,rfl,rfl⟩:=hR12
 have hS14:=Sep.no1 hS13
 simp only [zr,qg,Nat.reduceAdd,Nat.zero_add,Nat.add_zero,qw,qed,B0,reduceIte,reduceEqDiff]
 refine qd9 (n:=3) (us:=[.int .i64 g_0.Epoch]) (cs:=[v15,.int .i64 x1.Epoch,.int .i64 x1.Known]) (o:=1) (cs':=[v15,.int .i64 g_0.Epoch,
   .int .i64 x1.Known]) rfl hv11 rfl hx2 hS14 hW rfl rfl (Nat.le_of_ble_eq_true rfl) rfl (fun c19 h6 hv20 hS7=>?_)
 simp only [qx,quj,jf,zf0,zn,qg,ko,zu,zr,Nat.reduceAdd,Nat.zero_add,Nat.add_zero,qw,zl,B0,reduceIte,reduceEqDiff]
 refine qp (v:=pv0_4) ((zt (Sep.bk _ _ _ (Sep.m2 hS7))).trans rfl) ?_
 simp only [zf1,zn,qg,zf0,ko,zu,zr,Nat.reduceAdd,Nat.zero_add,Nat.add_zero,qw,zl,B0,reduceIte,reduceEqDiff]
 refine qp (v:=pv0_4) ((zt (Sep.bk _ _ _ (Sep.m2 hS7))).trans rfl) ?_
 simp only [zf1,zn,qg,wt,B0,reduceIte,reduceEqDiff]
 refine qp (SlG.ia hv20 hx2) ?_
 simp only [zr,qg,Nat.reduceAdd,Nat.zero_add,Nat.add_zero,qw,zl,B0,reduceIte,reduceEqDiff]
 refine qp (v:=v15) ((SlG.ld (o:=0) hv20 rfl hx2 hS7 (Nat.le_of_ble_eq_true rfl)).trans rfl) ?_
 simp only [qdw,qg,SlF.plen hv17,wt,B0,reduceIte,reduceEqDiff]
 refine qp (SlG.ia hv20 hx2) ?_
 simp only [zr,qg,Nat.reduceAdd,Nat.zero_add,Nat.add_zero,qw,qed,B0,reduceIte,reduceEqDiff]
 refine qd9 (n:=3) (us:=[.int .i64 (List.length x1.Log:Int)]) (cs:=[v15,.int .i64 g_0.Epoch,.int .i64 x1.Known]) (o:=2) (cs':=[v15,.int .i64 g_0.Epoch,
   .int .i64 (List.length x1.Log:Int)]) rfl hv20 rfl hx2 hS7 hW rfl rfl (Nat.le_of_ble_eq_true rfl) rfl (fun c23 h21 hv24 hS22=>?_)
 simp only [qx,qk,B0,reduceIte,reduceEqDiff]
 obtain ⟨c25,hv26,hS27⟩:=SlG.cls (e':=(Replica.mk x1.Log g_0.Epoch (List.length x1.Log:Int))) (c:=c23) (os:=c16) hv24 rfl hx2 z9 (Replica.RI (x :=
   (Replica.mk x1.Log g_0.Epoch (List.length x1.Log:Int))) hv17) (Sep.m1 (Sep.m1 hS22))
 have hx28:=qdb (x':=(Replica.mk x1.Log g_0.Epoch (List.length x1.Log:Int))) hx2
 have hv29:=SlG.toN hv26
 have he:=qj hF3
 subst he
 simp only [qlc,B0,reduceIte,reduceEqDiff]
 exact ⟨pc0_2,c25,by first | trivial | rfl,ph0_2,hv29,(Sep.m2 (Sep.m2 hS27))⟩
theorem qdr {W:Nat→Bool}{h:Heap}{lo:Nat→Prop}{S0:List Obj} (hW:∀ b,
  lo b→W b=true) (k:Nat) (pb0:Nat) (g_0:Group) (pv0_2:XV) (pc0_2:List Obj) (ph0_2:SlF cI 1 3 pv0_2 g_0.InStep pc0_2) (pv0_4:XV) (pc0_4:List Obj)
  (ph0_4:SlN Replica.R 3 51 pv0_4 g_0.Replicas pc0_4) (k_1:Int) (many_2:Int) (r:Group) (hF:yc k g_0 k_1 many_2=some r) (hS:Sep h lo
  ([Blk1 pb0 [.int .i64 g_0.Epoch,.int .i64 g_0.Leader,pv0_2,.int .i64 g_0.High,pv0_4] 29]++(pc0_2++(pc0_4++(S0))))) : Ret E W 55 [.ptr pb0 0,.int .i64 k_1,
  .int .i64 many_2] h (fun v h'=>∃ ic0_2 ic0_4,
  v = .tup []∧SlF cI 1 3 pv0_2 r.InStep ic0_2∧SlN Replica.R 3 51 pv0_4 r.Replicas ic0_4∧Sep h' lo ([Blk1 pb0 [.int .i64 r.Epoch,.int .i64 r.Leader,pv0_2,
  .int .i64 r.High,pv0_4] 29]++(ic0_2++(ic0_4++(S0))))):=by
 refine Ret.of (fn:=x55) rfl (Run.of ?_)
 unfold yc at hF
 have zf0:zc [.ptr pb0 0,.int .i64 k_1,.int .i64 many_2] 0 = .ptr pb0 0:=rfl
 have zf1:zc [.ptr pb0 0,.int .i64 k_1,.int .i64 many_2] 1 = .int .i64 k_1:=rfl
 have zf2:zc [.ptr pb0 0,.int .i64 k_1,.int .i64 many_2] 2 = .int .i64 many_2:=rfl
 generalize zc [.ptr pb0 0,.int .i64 k_1,.int .i64 many_2]=fr0 at zf0 zf1 zf2 ⊢
 simp only [x55,qf,qe,zf0,qd,y7,qb,zu,qn,B0,reduceIte,reduceEqDiff]
 refine qh (v := .agg [.int .i64 g_0.Epoch,.int .i64 g_0.Leader,pv0_2,.int .i64 g_0.High,pv0_4]) ((jg (Sep.bk _ _ _ hS)).trans rfl) ?_
 obtain ⟨v1,hx2,hF3⟩:=qi hF
 simp only [zf1,qd,zd,B0,reduceIte,reduceEqDiff]
 refine j6 rfl (ql (kd (ql qq (ql qq (ql (SlF.snap ph0_2 (Sep.m1 hS) rfl (fun _=>rfl) (fun _=>rfl)) (ql qq (ql (SlN.snap ph0_4 _
   (Sep.m2 hS) rfl Replica.RO) zh)))))) (ql qq zh)) (w6 (fun b hb=>decide_eq_true hb) k g_0 k_1 v1 hx2) ?_
 simp only [qd,qa,qww,qf,jf,zf0,zn,qg,ko,zu,zr,Nat.reduceAdd,Nat.zero_add,Nat.add_zero,qw,zl,B0,
   reduceIte,reduceEqDiff]
 refine qp (v:=pv0_4) ((zt (Sep.bk _ _ _ hS)).trans rfl) ?_
 simp only [zf0,zn,qg,ko,zu,zr,Nat.reduceAdd,Nat.zero_add,Nat.add_zero,qw,zl,B0,reduceIte,reduceEqDiff]
 refine qp (v := .int .i64 g_0.Leader) ((zt (Sep.bk _ _ _ hS)).trans rfl) ?_
 obtain ⟨x4,hx5,hF6⟩:=qi hF3
 simp only [wt,B0,reduceIte,reduceEqDiff]
 obtain ⟨b7,hb8⟩:=SlN.isrow ph0_4 (uf hx5)
 refine qp (SlN.ia ph0_4 hb8 hx5) ?_
 obtain ⟨c9,cs10,os11,hv12,hR13,hS14⟩:=SlG.opn (SlN.toG ph0_4 hb8 Replica.RO.len) hx5 z9 Replica.RO.len (Sep.m2 hS)
 obtain ⟨v16,c17,hv18,rfl,rfl⟩:=hR13
 have hS15:=Sep.no1 hS14
 simp only [zr,qg,Nat.reduceAdd,Nat.zero_add,Nat.add_zero,qw,zl,B0,reduceIte,reduceEqDiff]
 refine qp (v:=v16) ((SlG.ld (o:=0) hv12 rfl hx5 hS15 (Nat.le_of_ble_eq_true rfl)).trans rfl) ?_
 obtain ⟨l20,hx21,hF22⟩:=qi hF6
 simp only [zn,qg,qg4,Option.map_some,Option.map_none,B0,reduceIte,reduceEqDiff]
 obtain ⟨w23,i24,he25,hw26⟩:=SlF.win (f:=Row.cells) (ty:=98) (some v1) none hv18 hx21 (Sep.m1 hS15)
 refine qp he25 ?_
 simp only [zn,qg,qx,qzv,qf,qe,zf0,qd,y7,qb,zu,qt,Nat.reduceAdd,Nat.zero_add,Nat.add_zero,qw,
   qn,B0,reduceIte,reduceEqDiff]
 refine qh (v:=pv0_4) ((zt (Sep.bk _ _ _ (Sep.m2 hS15))).trans rfl) ?_
 obtain ⟨x27,hx28,hF29⟩:=qi hF22
 simp only [zf1,qd,jz,B0,reduceIte,reduceEqDiff]
 refine qh (SlG.ia hv12 hx28) ?_
 simp only [qd,qa,quz,qf,jf,qkn,qg,qcn,evp,B0,reduceIte,reduceEqDiff]
 refine uu (n:=2) (f:=Row.cells) ([] : List Row) hS15 rfl rfl (fun v30 c31 h32 hv33 hS34=>?_)
 obtain ⟨hp36,hF37⟩:=qfz hF29
 have hn38:=qw4 hp36 hx5 hx28
 obtain ⟨c39,cs40,os41,hv42,hR43,hS44⟩:=SlG.opn hv12 hx28 ((qe5 hn38).trans z9) Replica.RO.len (Sep.m1 hS34)
 obtain ⟨v46,c47,hv48,rfl,rfl⟩:=hR43
 have hS45:=Sep.no1 hS44
 simp only [zn,qg,ko,zu,zr,Nat.reduceAdd,Nat.zero_add,Nat.add_zero,qw,zl,B0,reduceIte,reduceEqDiff]
 refine qp (v:=v46) ((SlG.ld (o:=0) hv42 rfl hx28 hS45 (Nat.le_of_ble_eq_true rfl)).trans rfl) ?_
 obtain ⟨l50,hx51,hF52⟩:=qi hF37
 simp only [zn,qg,qg4,Option.map_some,Option.map_none,B0,reduceIte,reduceEqDiff]
 obtain ⟨w53,i54,he55,hw56⟩:=SlF.win (f:=Row.cells) (ty:=98) none (some v1) hv48 hx51 (Sep.m1 hS45)
 refine qp he55 ?_
 simp only [qg2,B0,reduceIte,reduceEqDiff]
 obtain ⟨l57,hx58,hF59⟩:=qi hF52
 refine qbx (f:=Row.cells) hv33 (Sep.m2 hS45) hW (fun _=>rfl) (fun _=>rfl) (SlW.first hw56 hv48 (Sep.m1 hS45) (fun _=>rfl)) hx58 (fun v60 c61 h62 hv63 hS64=>?_)
 obtain ⟨l66,hx67,hF68⟩:=qi hF59
 simp only [qkn,qg,zf2,qot,SlW.plen hw26 hv18,q2j,qn9,q2l,Option.map_some,Option.map_none,B0,reduceIte,reduceEqDiff]
 obtain ⟨w69,i70,he71,hw72⟩:=SlW.win (ty:=98) none (some (mnI many_2 (List.length l20:Int))) hw26 hv18 hx67 (Sep.m3 hS64)
 refine qp he71 ?_
 simp only [qg2,B0,reduceIte,reduceEqDiff]
 obtain ⟨l73,hx74,hF75⟩:=qi hF68
 refine qbx (f:=Row.cells) hv63 hS64 hW (fun _=>rfl) (fun _=>rfl) (SlW.first hw72 hv18 (Sep.m3 hS64) (fun _=>rfl)) hx74 (fun v76 c77 h78 hv79 hS80=>?_)
 simp only [ko,qg,zu,zr,Nat.reduceAdd,Nat.zero_add,Nat.add_zero,qw,qed,B0,reduceIte,reduceEqDiff]
 refine qd9 (n:=3) (us:=[v76]) (cs:=[v46,.int .i64 x27.Epoch,.int .i64 x27.Known]) (o:=0) (cs':=[v76,.int .i64 x27.Epoch,
   .int .i64 x27.Known]) (kr (SlF.one hv79)) hv42 rfl hx28 (Sep.m1 hS80) hW rfl (qm (SlF.one hv79) zq) (Nat.le_of_ble_eq_true rfl) rfl (fun c84 h82 hv85 hS83=>?_)
 obtain ⟨c86,hv87,hS88⟩:=SlG.cls (e':=(Replica.mk l73 x27.Epoch x27.Known)) (c:=c84) (os:=c77) hv85 rfl hx28 ((qe5 hn38).trans z9) (Replica.RI (x :=
   (Replica.mk l73 x27.Epoch x27.Known)) hv79) (Sep.m1 (Sep.m1 hS83))
 have hx89:=qdb (x':=(Replica.mk l73 x27.Epoch x27.Known)) hx28
 have hx90:=qhn (e:=(Replica.mk l73 x27.Epoch x27.Known)) hx5 (Ne.symm hn38)
 obtain ⟨c91,hv92,hS93⟩:=SlG.cls0 (c:=c86) (os:=c17) hv87 rfl hx90 z9 (Replica.RI (x:=x4) hv18) (Sep.m1 (Sep.m2 hS88))
 have hv94:=SlG.toN hv92
 obtain ⟨v95,hx96,hF97⟩:=qi hF75
 simp only [qx,qe,zf0,qd,zf1,zd,B0,reduceIte,reduceEqDiff]
 refine yp rfl (qaj hW pb0 (Group.mk g_0.Epoch g_0.Leader g_0.InStep g_0.High (List.set g_0.Replicas k_1.toNat
   (Replica.mk l73 x27.Epoch x27.Known))) pv0_2 pc0_2 ph0_2 pv0_4 c91 hv94 k_1 v95 hx96 (Sep.m3 (Sep.m3 hS93))) ?_
 rintro _ h102 ⟨c98,c100,rfl,hv99,hv101,hS103⟩
 simp only [qa,qk,B0,reduceIte,reduceEqDiff]
 have he:=qj hF97
 subst he
 simp only [qlc,B0,reduceIte,reduceEqDiff]
 exact ⟨c98,c100,by first | trivial | rfl,hv99,hv101,(Sep.m2 (Sep.m2 (Sep.m2 (Sep.dc (Sep.m3 hS103)))))⟩
theorem qgw {W:Nat→Bool}{h:Heap} (hW:∀ b,
  (geL h.length) b→W b=true) (k:Nat) (g_0:Group) (r:Group × Int × Bool) (hF:uq k g_0=some r) : Ret E W 11 [.agg [.int .i64 g_0.Epoch,
  .int .i64 g_0.Leader,lst cI g_0.InStep,.int .i64 g_0.High,lst Replica.cells g_0.Replicas]] h (fun v h'=>∃ rv0_2 rc0_2 rv0_4 rc0_4,v = .tup [.agg [.int .i64 r.1.Epoch,
  .int .i64 r.1.Leader,rv0_2,.int .i64 r.1.High,rv0_4],.int .i64 r.2.1,
  .bool r.2.2]∧SlF cI 1 3 rv0_2 r.1.InStep rc0_2∧SlN Replica.R 3 51 rv0_4 r.1.Replicas rc0_4∧Sep h' (geL h.length) (rc0_2++(rc0_4++([])))):=by
 refine Ret.of (fn:=x11) rfl (Run.of ?_)
 unfold uq at hF
 have zf0:zc [.agg [.int .i64 g_0.Epoch,.int .i64 g_0.Leader,lst cI g_0.InStep,.int .i64 g_0.High,lst Replica.cells g_0.Replicas]] 0 = .agg [.int .i64 g_0.Epoch,
   .int .i64 g_0.Leader,lst cI g_0.InStep,.int .i64 g_0.High,lst Replica.cells g_0.Replicas]:=rfl
 generalize zc [.agg [.int .i64 g_0.Epoch,.int .i64 g_0.Leader,lst cI g_0.InStep,.int .i64 g_0.High,lst Replica.cells g_0.Replicas]]=fr0 at zf0 ⊢
 have hS:Sep h (geL h.length) []:=Sep.nil h
 simp only [x11,qf,qe,wu,zf0,B0,reduceIte,reduceEqDiff]
 refine yj (cs:=[.int .i64 g_0.Epoch,.int .i64 g_0.Leader,lst cI g_0.InStep,.int .i64 g_0.High,lst Replica.cells g_0.Replicas]) hS rfl rfl rfl (fun b1 h2 hS3=>?_)
 simp only [jt,B0,reduceIte,reduceEqDiff]
 refine jc hS3 (fun b5 h6 hS7=>?_)
 simp only [qd,qa,B0,reduceIte,reduceEqDiff]
 refine jm (Sep.m1 hS7) hW (by simp only [B0,reduceIte,reduceEqDiff]) (fun h9 hS10=>?_)
 simp only [jb,qor,qf,qe,qn,B0,reduceIte,reduceEqDiff]
 refine qh (v := .agg [.int .i64 g_0.Epoch,.int .i64 g_0.Leader,lst cI g_0.InStep,.int .i64 g_0.High,lst Replica.cells g_0.Replicas]) rfl ?_
 obtain ⟨v11,hx12,hF13⟩:=qi hF
 simp only [zd,B0,reduceIte,reduceEqDiff]
 refine j6 rfl (ql (kd (ql qq (ql qq (ql jp (ql qq (ql jp zh)))))) zh) (qby
   (fun b hb=>decide_eq_true hb) k g_0 v11 hx12) ?_
 simp only [jy,qb,kw,qa,qwd,q9,B0,reduceIte,reduceEqDiff]
 refine q8 (t:=(!v11)) (fun hc14=>?_) (fun hc14=>?_)
 ·rw [iteT hc14] at hF13
  simp only [qvs,qf,qe,run_build,evp,B0,reduceIte,reduceEqDiff]
  refine qh (v := .agg [.int .i64 0,.int .i64 0,.nil,.int .i64 0,.nil]) rfl ?_
  simp only [zm,B0,reduceIte,reduceEqDiff]
  refine za (us:=[.int .i64 0,.int .i64 0,.nil,.int .i64 0,.nil]) rfl (cs':=[.int .i64 0,.int .i64 0,.nil,.int .i64 0,
    .nil]) hS10 hW rfl rfl (Nat.le_of_ble_eq_true rfl) rfl (fun h15 hS16=>?_)
  simp only [qd,qa,qz,B0,reduceIte,reduceEqDiff]
  have he:=qj hF13
  subst he
  refine yi (ql (wa (bb:=b5) (oo:=0) (v := .agg [.int .i64 0,.int .i64 0,.nil,.int .i64 0,
    .nil]) (rfl) ((jg (Sep.bk _ _ _ hS16)).trans rfl)) (ql (wx (v := .int .i64 0) (rfl)) (ql (wx (v := .bool false) (rfl)) zh))) ?_
  exact ⟨.nil,[],.nil,[],by first | trivial | rfl,SlF.nil,SlN.nil,((Sep.dc (hS16)) : Sep _ (geL h.length) ([]))⟩
 rw [iteF hc14] at hF13
 simp only [zi,qq9,qf,qe,qn,B0,reduceIte,reduceEqDiff]
 refine qh (v := .agg [.int .i64 g_0.Epoch,.int .i64 g_0.Leader,lst cI g_0.InStep,.int .i64 g_0.High,lst Replica.cells g_0.Replicas]) rfl ?_
 obtain ⟨v17,hx18,hF19⟩:=qi hF13
 simp only [zd,B0,reduceIte,reduceEqDiff]
 refine qcd rfl hS10 (ql (kd (ql qq (ql qq (ql jp (ql qq (ql jp zh)))))) zh) (qh7
   (fun b hb=>decide_eq_true hb) g_0 v17 hx18) ?_
 rintro _ h28 ⟨v20,c21,v24,c25,rfl,hv22,hv26,hS29⟩
 refine ⟨_,qiz (qm rfl (qm rfl (qm (SlF.free1 hv22) (qm rfl (qm (SlN.free1 hv26) zq))))),hS29,
   (yf (SlF.pf hv22 (fun _=>rfl)) (yf (SlN.pf hv26 Replica.RO) qar)),fun h30 hS31=>?_⟩
 have hS32:Sep h30 (geL h.length) (c21++(c25++([Blk1 b5 [.int .i64 0,.int .i64 0,.nil,.int .i64 0,.nil] 29]++([])))):=by simpa only [List.append_assoc,
   List.nil_append] using hS31
 simp only [jt,B0,reduceIte,reduceEqDiff]
 refine jc hS32 (fun b33 h34 hS35=>?_)
 simp only [zm,B0,reduceIte,reduceEqDiff]
 refine za (us:=[.int .i64 v17.Epoch,.int .i64 v17.Leader,v20,.int .i64 v17.High,v24]) rfl (cs':=[.int .i64 v17.Epoch,.int .i64 v17.Leader,v20,
   .int .i64 v17.High,v24]) hS35 hW rfl (qm rfl (qm rfl (qm (SlF.one hv22) (qm rfl (qm (SlN.one hv26) zq))))) (Nat.le_of_ble_eq_true rfl) rfl
   (fun h37 hS38=>?_)
 simp only [qa,qri,qf,qe,qt,qb,Nat.reduceAdd,Nat.zero_add,Nat.add_zero,qw,zm,B0,reduceIte,reduceEqDiff]
 refine za (us:=[.nil]) rfl (cs':=[.int .i64 v17.Epoch,.int .i64 v17.Leader,.nil,.int .i64 v17.High,
   v24]) hS38 hW rfl rfl (Nat.le_of_ble_eq_true rfl) rfl (fun h39 hS40=>?_)
 simp only [qa,qp2,qf,qe,qt,qb,Nat.reduceAdd,Nat.zero_add,Nat.add_zero,qw,qn,B0,reduceIte,reduceEqDiff]
 refine qh (v:=v24) ((zt (Sep.bk _ _ _ hS40)).trans rfl) ?_
 simp only [zw,qb,SlN.len hv26,qd,qa,B0,reduceIte,reduceEqDiff]
 obtain ⟨oc59,hX61,hk62⟩:=ki hF19
 simp only [qxx]
 refine qdf (σ:=Group × (List Replica)) (fun i57 s144=>ym k i57 s144.1 s144.2) (fun s fr' h'=>∃ v51 c52 c55,fr' 1 = .ref [.int .i64 g_0.Epoch,
   .int .i64 g_0.Leader,lst cI g_0.InStep,.int .i64 g_0.High,
   lst Replica.cells g_0.Replicas] 0∧fr' 2 = .ptr b5 0∧fr' 5 = .ptr b33 0∧SlF cI 1 3 v51 s.1.InStep c52∧SlN Replica.R 3 51 v24 s.2 c55∧Sep h' (geL h.length)
   ([Blk1 b5 [.int .i64 0,.int .i64 0,.nil,.int .i64 0,.nil] 29]++([Blk1 b33 [.int .i64 s.1.Epoch,.int .i64 s.1.Leader,v51,.int .i64 s.1.High,
   v24] 29]++(c52++(c55++([])))))) hX61 ⟨.nil,[],c25,rfl,rfl,rfl,SlF.nil,hv26,
   ((Sep.m2 (Sep.m1 (Sep.m1 (Sep.dc (Sep.m1 hS40))))) : Sep _ (geL h.length) ([Blk1 b5 [.int .i64 0,.int .i64 0,.nil,.int .i64 0,
   .nil] 29]++([Blk1 b33 [.int .i64 v17.Epoch,.int .i64 v17.Leader,.nil,.int .i64 v17.High,v24] 29]++(c25++([])))))⟩ (by simp only [B0,reduceIte,
   reduceEqDiff]) (by simp only [B0,reduceIte,reduceEqDiff]) (fun _ _ _ h=>h) rfl rfl (fun _ _ _ _ h=>h) (fun _ _ _ _ h=>h) (fun _ _ _ _ h=>h) (by decide) ?_ ?_
 ·rintro i57 ⟨s49,s54⟩ fr71 h72 hx77 ⟨v51,c52,c55,f74,f75,f76,hv53,hv56,hS73⟩ f78 f79 oc60 hF63 hr64 Q65 hN66 hB70 hK67 hR68 hE69
  dsimp only at *
  unfold ym at hF63
  simp only [qy9,qf,qe,f78,qd,qa,qz9,f76,qt,qb,Nat.reduceAdd,Nat.zero_add,Nat.add_zero,qw,qn,B0,reduceIte,
    reduceEqDiff]
  refine qh (v := .int .i64 s49.Leader) ((zt (Sep.bk _ _ _ (Sep.m1 hS73))).trans rfl) ?_
  simp only [qy,qb,yo,qa,qx4,q9,B0,reduceIte,reduceEqDiff]
  obtain ⟨sv90,hX88,hk89⟩:=qi hF63
  refine qdt (t:=(decide ((i57:Int)=s49.Leader))) (fun fr' h'=>∃ c82 c85,fr' 1 = .ref [.int .i64 g_0.Epoch,.int .i64 g_0.Leader,lst cI g_0.InStep,
    .int .i64 g_0.High,lst Replica.cells g_0.Replicas] 0∧fr' 2 = .ptr b5 0∧fr' 5 = .ptr b33 0∧fr' 6 = .int .i64 (i57:Int)∧fr' 16 = .int .i64
    (List.length v17.Replicas:Int)∧fr' 17 = .int .i64 (i57:Int)∧SlF cI 1 3 v51 sv90.2.1 c82∧SlN Replica.R 3 51 v24 sv90.2.2 c85∧Sep h' (geL h.length)
    ([Blk1 b5 [.int .i64 0,.int .i64 0,.nil,.int .i64 0,.nil] 29]++([Blk1 b33 [.int .i64 sv90.1.Epoch,.int .i64 sv90.1.Leader,v51,.int .i64 sv90.1.High,
    v24] 29]++(c82++(c85++([])))))) (fun Q91 hN92 hR93 hE94=>⟨fun hc95=>?_,fun hc95=>?_⟩) ?_
  ·rw [iteT hc95] at hX88
   obtain ⟨v96,hx97,hF98⟩:=qi hX88
   simp only [qe,qd,f76,zd,B0,reduceIte,reduceEqDiff]
   refine yp rfl (qaj hW b33 (Group.mk s49.Epoch s49.Leader s49.InStep s49.High s54) v51 c52 hv53 v24 c55 hv56 (i57:Int) v96 hx97 (Sep.m3 (Sep.m3
     (Sep.m3 hS73)))) ?_
   rintro _ h103 ⟨c99,c101,rfl,hv100,hv102,hS104⟩
   simp only [qa,qk,B0,reduceIte,reduceEqDiff]
   have e105:=qj hF98
   subst e105
   exact hN92 _ _ ⟨c99,c101,f74,f75,f76,rfl,f79,f78,hv100,hv102,(Sep.m3 (Sep.m2 (Sep.m2 (Sep.m2 hS104))))⟩
  ·rw [iteF hc95] at hX88
   obtain ⟨v106,hx107,hF108⟩:=qi hX88
   simp only [qe,qd,f76,zd,B0,reduceIte,reduceEqDiff]
   refine yp rfl (qdr hW k b33 (Group.mk s49.Epoch s49.Leader s49.InStep s49.High s54) v51 c52 hv53 v24 c55 hv56 (i57:Int) 30 v106 hx107 (Sep.m3 (Sep.m3
     (Sep.m3 hS73)))) ?_
   rintro _ h113 ⟨c109,c111,rfl,hv110,hv112,hS114⟩
   simp only [qa,qk,B0,reduceIte,reduceEqDiff]
   have e115:=qj hF108
   subst e115
   exact hN92 _ _ ⟨c109,c111,f74,f75,f76,rfl,f79,f78,hv110,hv112,(Sep.m3 (Sep.m2 (Sep.m2 (Sep.m2 hS114))))⟩
  rintro fr116 h117 ⟨c82,c85,f119,f120,f121,f122,f123,f124,hv83,hv86,hS118⟩
  obtain ⟨s80,s81,s84⟩:=sv90
  dsimp only at *
  unfold ut at hk89
  simp only [qve,qe,f121,qt,qb,Nat.reduceAdd,Nat.zero_add,Nat.add_zero,qw,qn,B0,reduceIte,reduceEqDiff]
  refine qh (v:=v51) ((zt (Sep.bk _ _ _ (Sep.m1 hS118))).trans rfl) ?_
  simp only [f122,qd,kz,evp,B0,reduceIte,reduceEqDiff]
  refine j9 (n:=1) (f:=cI) [(i57:Int)] hS118 rfl rfl (fun v125 c126 h127 hv128 hS129=>?_)
  simp only [wv,B0,reduceIte,reduceEqDiff]
  obtain ⟨l131,hx132,hF133⟩:=qi hk89
  refine yv (f:=cI) hv83 (Sep.m3 hS129) hW (fun _=>rfl) (fun _=>rfl) (SlF.first hv128 hS129 (fun _=>rfl)) hx132 (fun v134 c135 h136 hv137 hS138=>?_)
  simp only [f121,qt,qb,Nat.reduceAdd,Nat.zero_add,Nat.add_zero,qw,zm,B0,reduceIte,reduceEqDiff]
  refine za (us:=[v134]) (kr (SlF.one hv137)) (cs':=[.int .i64 s80.Epoch,.int .i64 s80.Leader,v134,.int .i64 s80.High,
    v24]) (Sep.m3 hS138) hW rfl (qm (SlF.one hv137) zq) (Nat.le_of_ble_eq_true rfl) rfl (fun h140 hS141=>?_)
  simp only [qa,qk,B0,reduceIte,reduceEqDiff]
  have e142:=qj hF133
  exact hN66 _ _ _ e142.symm ⟨v134,c135,c85,f119,f120,f121,hv137,hv86,(Sep.m3 (Sep.m2 (Sep.m2 (Sep.m3 (Sep.dc (Sep.m2 hS141))))))⟩ (f124) (f123)
 rintro ⟨s145,s150⟩ fr153 h154 rfl ⟨v147,c148,c151,f156,f157,f158,hv149,hv152,hS155⟩
 dsimp only [jnO] at hk62
 dsimp only at *
 unfold qbe at hk62
 simp only [qsi,qf,qe,f158,qt,qb,Nat.reduceAdd,Nat.zero_add,Nat.add_zero,qw,qn,B0,reduceIte,reduceEqDiff]
 refine qh (v:=v24) ((zt (Sep.bk _ _ _ (Sep.m1 hS155))).trans rfl) ?_
 simp only [f158,qt,qb,Nat.reduceAdd,Nat.zero_add,Nat.add_zero,qw,qn,B0,reduceIte,reduceEqDiff]
 refine qh (v := .int .i64 s145.Leader) ((zt (Sep.bk _ _ _ (Sep.m1 hS155))).trans rfl) ?_
 obtain ⟨x159,hx160,hF161⟩:=qi hk62
 simp only [jz,B0,reduceIte,reduceEqDiff]
 obtain ⟨b162,hb163⟩:=SlN.isrow hv152 (uf hx160)
 refine qh (SlN.ia hv152 hb163 hx160) ?_
 obtain ⟨c164,cs165,os166,hv167,hR168,hS169⟩:=SlG.opn (SlN.toG hv152 hb163 Replica.RO.len) hx160 z9 Replica.RO.len (Sep.m3 hS155)
 obtain ⟨v171,c172,hv173,rfl,rfl⟩:=hR168
 have hS170:=Sep.no1 hS169
 simp only [qt,qb,Nat.reduceAdd,Nat.zero_add,Nat.add_zero,qw,qn,B0,reduceIte,reduceEqDiff]
 refine qh (v:=v171) ((SlG.ld (o:=0) hv167 rfl hx160 hS170 (Nat.le_of_ble_eq_true rfl)).trans rfl) ?_
 simp only [zw,qb,SlF.plen hv173,f158,qt,Nat.reduceAdd,Nat.zero_add,Nat.add_zero,qw,zm,B0,reduceIte,reduceEqDiff]
 refine za (us:=[.int .i64 (List.length x159.Log:Int)]) rfl (cs':=[.int .i64 s145.Epoch,.int .i64 s145.Leader,v147,.int .i64 (List.length x159.Log:Int),
   v24]) (Sep.m3 hS170) hW rfl rfl (Nat.le_of_ble_eq_true rfl) rfl (fun h175 hS176=>?_)
 simp only [qa,qvf,qf,jf,f158,zl,B0,reduceIte,reduceEqDiff]
 refine qp (v := .agg [.int .i64 s145.Epoch,.int .i64 s145.Leader,v147,.int .i64 (List.length x159.Log:Int),v24]) ((jg (Sep.bk _ _ _ hS176)).trans rfl) ?_
 simp only [f158,qa1,qg,Nat.reduceAdd,Nat.zero_add,Nat.add_zero,qw,qai,B0,reduceIte,reduceEqDiff]
 refine qm3 (Sep.ltk hS176) ?_
 refine qp (v := .int .i64 (List.length x159.Log:Int)) ((zt (Sep.bk _ _ _ hS176)).trans rfl) ?_
 simp only [f156,qa1,qg,Nat.reduceAdd,Nat.zero_add,Nat.add_zero,qv,qai,xv,B0,reduceIte,reduceEqDiff]
 refine qp (v := .int .i64 g_0.High) rfl ?_
 simp only [q2m,qg,qc7,f157,q3g,B0,reduceIte,reduceEqDiff]
 refine q5d (q39 (Sep.bne (Sep.m3 hS176)) q3y) ?_
 refine qbt (us:=[.int .i64 s145.Epoch,.int .i64 s145.Leader,v147,.int .i64 (List.length x159.Log:Int),v24]) rfl (cs':=[.int .i64 s145.Epoch,
   .int .i64 s145.Leader,v147,.int .i64 (List.length x159.Log:Int),
   v24]) (Sep.m3 hS176) hW rfl (qm rfl (qm rfl (qm (SlF.one hv149) (qm rfl (qm (SlG.one hv167) zq))))) (Nat.le_of_ble_eq_true rfl) rfl (fun h177 hS178=>?_)
 simp only [zn,qg,qx,qz,B0,reduceIte,reduceEqDiff]
 obtain ⟨c179,hv180,hS181⟩:=SlG.cls0 (c:=c164) (os:=c172) hv167 rfl hx160 z9 (Replica.RI (x:=x159) hv173) (Sep.m3 (Sep.m3 hS178))
 have hv182:=SlG.toN hv180
 have he:=qj hF161
 subst he
 refine yi (ql (wa (bb:=b5) (oo:=0) (v := .agg [.int .i64 s145.Epoch,.int .i64 s145.Leader,v147,.int .i64 (List.length x159.Log:Int),
   v24]) (f157) ((jg (Sep.bk _ _ _ (Sep.m1 hS181))).trans rfl)) (ql (wx (v := .int .i64 (IntKind.wrap .i64 ((List.length x159.Log:Int) - g_0.High))) (rfl)) (ql
   (wx (v := .bool true) (rfl)) zh))) ?_
 exact ⟨v147,c148,v24,c179,by first | trivial | rfl,hv149,hv182,(Sep.m1 (Sep.dc (Sep.m1 (Sep.dc (Sep.m1 hS181)))))⟩
theorem qhp {W:Nat→Bool}{h:Heap}{lo:Nat→Prop}{S0:List Obj} (hW:∀ b,
  lo b→W b=true) (pb0:Nat) (c_0:L1Cur) (r:Int × L1Cur) (hF:qck c_0=some r) (hS:Sep h lo ([Blk1 pb0 [lst cU8 c_0.code,.int .i64 c_0.at_,
  .int .u64 c_0.seed] 91]++(S0))) : Ret E W 86 [.ptr pb0 0] h (fun v h'=>v = .int .i64 r.1∧Sep h' lo ([Blk1 pb0 [lst cU8 r.2.code,.int .i64 r.2.at_,
  .int .u64 r.2.seed] 91]++(S0))):=by
 refine Ret.of (fn:=x86) rfl (Run.of ?_)
 unfold qck at hF
 have zf0:zc [.ptr pb0 0] 0 = .ptr pb0 0:=rfl
 generalize zc [.ptr pb0 0]=fr0 at zf0 ⊢
 simp only [x86,qf,qe,qd,qa,qzk,quv,jf,zf0,zn,qg,ko,zu,zr,Nat.reduceAdd,Nat.zero_add,Nat.add_zero,
   qw,zl,B0,reduceIte,reduceEqDiff]
 refine qp (v := .int .i64 c_0.at_) ((zt (Sep.bk _ _ _ hS)).trans rfl) ?_
 simp only [zf0,zn,qg,ko,zu,zr,Nat.reduceAdd,Nat.zero_add,Nat.add_zero,qw,zl,B0,reduceIte,reduceEqDiff]
 refine qp (v:=lst cU8 c_0.code) ((zt (Sep.bk _ _ _ hS)).trans rfl) ?_
 simp only [qdw,qg,jh,yd,qav,qx,qxr,q9,B0,reduceIte,reduceEqDiff]
 obtain ⟨s1,hX3,hk4⟩:=qi hF
 refine qdt (t:=(decide (c_0.at_<(List.length c_0.code:Int)))) (fun fr' h'=>fr' 0 = .ptr pb0 0∧fr' 3 = .int .i64 s1∧Sep h' lo ([Blk1 pb0 [lst cU8 c_0.code,
   .int .i64 c_0.at_,.int .u64 c_0.seed] 91]++(S0))) (fun Q5 hN6 hR7 hE8=>⟨fun hc9=>?_,fun hc9=>?_⟩) ?_
 ·rw [iteT hc9] at hX3
  simp only [qzo,jf,zf0,zn,qg,ko,zu,zr,Nat.reduceAdd,Nat.zero_add,Nat.add_zero,qw,zl,B0,reduceIte,reduceEqDiff]
  refine qp (v:=lst cU8 c_0.code) ((zt (Sep.bk _ _ _ hS)).trans rfl) ?_
  simp only [zf0,zn,qg,ko,zu,zr,Nat.reduceAdd,Nat.zero_add,Nat.add_zero,qw,zl,B0,reduceIte,reduceEqDiff]
  refine qp (v := .int .i64 c_0.at_) ((zt (Sep.bk _ _ _ hS)).trans rfl) ?_
  obtain ⟨x10,hx11,hF12⟩:=qi hX3
  simp only [wt,B0,reduceIte,reduceEqDiff]
  refine qp (v := .ref (cU8 x10) 0) (y8 hx11 rfl) ?_
  simp only [zl,B0,reduceIte,reduceEqDiff]
  refine qp (v := .int .u8 x10) rfl ?_
  simp only [q1t,qg,qgu,zn,qx,qk,B0,reduceIte,reduceEqDiff]
  have e13:=qj hF12
  subst e13
  exact hN6 _ _ ⟨zf0,rfl,hS⟩
 ·rw [iteF hc9] at hX3
  simp only [zi,qk,B0,reduceIte,reduceEqDiff]
  have e14:=qj hX3
  subst e14
  exact hN6 _ _ ⟨zf0,rfl,hS⟩
 rintro fr15 h16 ⟨f18,f19,hS17⟩
 unfold qct at hk4
 simp only [qw8,qf,qe,f18,qd,y7,qb,zu,qt,Nat.reduceAdd,Nat.zero_add,Nat.add_zero,qw,qn,B0,reduceIte,reduceEqDiff]
 refine qh (v := .int .i64 c_0.at_) ((zt (Sep.bk _ _ _ hS17)).trans rfl) ?_
 simp only [qy,qb,qao,y7,zu,qt,Nat.reduceAdd,Nat.zero_add,Nat.add_zero,qw,zm,B0,reduceIte,reduceEqDiff]
 refine za (us:=[.int .i64 (IntKind.wrap .i64 (c_0.at_+1))]) rfl (cs':=[lst cU8 c_0.code,.int .i64 (IntKind.wrap .i64 (c_0.at_+1)),
   .int .u64 c_0.seed]) hS17 hW rfl rfl (Nat.le_of_ble_eq_true rfl) rfl (fun h20 hS21=>?_)
 simp only [qa,qu7,qf,qe,f18,qd,y7,qb,zu,qt,Nat.reduceAdd,Nat.zero_add,Nat.add_zero,qw,qn,B0,reduceIte,
   reduceEqDiff]
 refine qh (v := .int .u64 c_0.seed) ((zt (Sep.bk _ _ _ hS21)).trans rfl) ?_
 simp only [qy,qb,qtt,f19,qd,qhg,qgu,qao,y7,zu,qt,Nat.reduceAdd,Nat.zero_add,Nat.add_zero,qw,zm,B0,reduceIte,
   reduceEqDiff]
 refine za (us:=[.int .u64 (IntKind.wrap .u64 ((IntKind.wrap .u64 ((IntKind.wrap .u64 (c_0.seed*6364136223846793005)) +
   (IntKind.wrap .u64 s1)))+1442695040888963407))]) rfl (cs':=[lst cU8 c_0.code,.int .i64 (IntKind.wrap .i64 (c_0.at_+1)),
   .int .u64 (IntKind.wrap .u64 ((IntKind.wrap .u64 ((IntKind.wrap .u64 (c_0.seed*6364136223846793005))+(IntKind.wrap .u64 s1)))+1442695040888963407))]) hS21 hW rfl rfl
   (Nat.le_of_ble_eq_true rfl) rfl (fun h22 hS23=>?_)
 simp only [qa,qwu,qf,jf,f18,zn,qg,ko,zu,zr,Nat.reduceAdd,Nat.zero_add,Nat.add_zero,qw,zl,B0,reduceIte,
   reduceEqDiff]
 refine qp (v := .int .i64 (IntKind.wrap .i64 (c_0.at_+1))) ((zt (Sep.bk _ _ _ hS23)).trans rfl) ?_
 simp only [f18,zn,qg,ko,zu,zr,Nat.reduceAdd,Nat.zero_add,Nat.add_zero,qw,zl,B0,reduceIte,reduceEqDiff]
 refine qp (v:=lst cU8 c_0.code) ((zt (Sep.bk _ _ _ hS23)).trans rfl) ?_
 simp only [qdw,qg,jh,yd,qjq,qx,qzd,q9,B0,reduceIte,reduceEqDiff]
 refine q8 (t:=(decide ((IntKind.wrap .i64 (c_0.at_+1))≤(List.length c_0.code:Int)))) (fun hc24=>?_) (fun hc24=>?_)
 ·rw [iteT hc24] at hk4
  simp only [qf,qe,f19,qd,qa,qz,B0,reduceIte,reduceEqDiff]
  have he:=qj hk4
  subst he
  simp only [ze,B0,reduceIte,reduceEqDiff]
  exact ⟨by first | trivial | rfl,hS23⟩
 rw [iteF hc24] at hk4
 simp only [zi,qze,qf,qe,f18,qd,y7,qb,zu,qt,Nat.reduceAdd,Nat.zero_add,Nat.add_zero,qw,qn,B0,reduceIte,
   reduceEqDiff]
 refine qh (v := .int .u64 (IntKind.wrap .u64 ((IntKind.wrap .u64 ((IntKind.wrap .u64 (c_0.seed*6364136223846793005))+(IntKind.wrap .u64 s1)))+1442695040888963407)))
   ((zt (Sep.bk _ _ _ hS23)).trans rfl) ?_
 simp only [qy,qb,qnc (n:=40) (by decide),q13,qhg,qgu,qd,qa,qz,B0,reduceIte,reduceEqDiff]
 have he:=qj hk4
 subst he
 simp only [ze,B0,reduceIte,reduceEqDiff]
 exact ⟨by first | trivial | rfl,hS23⟩
theorem yy {W:Nat→Bool}{h:Heap}{lo:Nat→Prop}{S0:List Obj} (hW:∀ b,
  lo b→W b=true) (pb0:Nat) (c_0:L1Cur) (n_1:Int) (r:Int × L1Cur) (hF:yk c_0 n_1=some r) (hS:Sep h lo ([Blk1 pb0 [lst cU8 c_0.code,.int .i64 c_0.at_,
  .int .u64 c_0.seed] 91]++(S0))) : Ret E W 62 [.ptr pb0 0,.int .i64 n_1] h (fun v h'=>v = .int .i64 r.1∧Sep h' lo ([Blk1 pb0 [lst cU8 r.2.code,.int .i64 r.2.at_,
  .int .u64 r.2.seed] 91]++(S0))):=by
 refine Ret.of (fn:=x62) rfl (Run.of ?_)
 unfold yk at hF
 have zf0:zc [.ptr pb0 0,.int .i64 n_1] 0 = .ptr pb0 0:=rfl
 have zf1:zc [.ptr pb0 0,.int .i64 n_1] 1 = .int .i64 n_1:=rfl
 generalize zc [.ptr pb0 0,.int .i64 n_1]=fr0 at zf0 zf1 ⊢
 simp only [x62,qf,qe,qd,qa,qwe,zf1,qy,qb,qjq,q9,B0,reduceIte,reduceEqDiff]
 refine q8 (t:=(decide (n_1≤1))) (fun hc1=>?_) (fun hc1=>?_)
 ·rw [iteT hc1] at hF
  simp only [qf,qe,qd,qa,qz,B0,reduceIte,reduceEqDiff]
  have he:=qj hF
  subst he
  simp only [ze,B0,reduceIte,reduceEqDiff]
  exact ⟨by first | trivial | rfl,hS⟩
 rw [iteF hc1] at hF
 obtain ⟨v2,hx3,hF4⟩:=qi hF
 simp only [zi,qy2,qf,qe,zf0,qd,zd,B0,reduceIte,reduceEqDiff]
 refine yp rfl (qhp hW pb0 c_0 v2 hx3 hS) ?_
 rintro _ h5 ⟨rfl,hS6⟩
 simp only [qd,qa,qut,qf,qe,zf1,qy,qb,qd5,qvb,q9,B0,reduceIte,reduceEqDiff]
 refine q8 (t:=(decide ((200:Int)<n_1))) (fun hc7=>?_) (fun hc7=>?_)
 ·rw [iteT hc7] at hF4
  obtain ⟨v8,hx9,hF10⟩:=qi hF4
  simp only [quk,qe,qd,qy,qb,qtt,zf0,zd,B0,reduceIte,reduceEqDiff]
  refine yp rfl (qhp hW pb0 v2.2 v8 hx9 hS6) ?_
  rintro _ h11 ⟨rfl,hS12⟩
  obtain ⟨hp13,hF14⟩:=qfz hF10
  simp only [qy,qb,qao,qd,qa,qnl,qf,qe,zf1,qha (n:=n_1) hp13,qz,B0,reduceIte,reduceEqDiff]
  have he:=qj hF14
  subst he
  simp only [ze,B0,reduceIte,reduceEqDiff]
  exact ⟨by first | trivial | rfl,hS12⟩
 rw [iteF hc7] at hF4
 obtain ⟨hp15,hF16⟩:=qfz hF4
 simp only [zi,qnl,qf,qe,qd,zf1,qy,qb,qha (n:=n_1) hp15,qa,qz,B0,reduceIte,reduceEqDiff]
 have he:=qj hF16
 subst he
 simp only [ze,B0,reduceIte,reduceEqDiff]
 exact ⟨by first | trivial | rfl,hS6⟩
theorem qih {W:Nat→Bool}{h:Heap}{lo:Nat→Prop}{S0:List Obj} (hW:∀ b,
  lo b→W b=true) (pb0:Nat) (c_0:L1Cur) (n_1:Int) (r:Bool × L1Cur) (hF:qc8 c_0 n_1=some r) (hS:Sep h lo ([Blk1 pb0 [lst cU8 c_0.code,.int .i64 c_0.at_,
  .int .u64 c_0.seed] 91]++(S0))) : Ret E W 87 [.ptr pb0 0,.int .i64 n_1] h (fun v h'=>v = .bool r.1∧Sep h' lo ([Blk1 pb0 [lst cU8 r.2.code,.int .i64 r.2.at_,
  .int .u64 r.2.seed] 91]++(S0))):=by
 refine Ret.of (fn:=x87) rfl (Run.of ?_)
 unfold qc8 at hF
 have zf0:zc [.ptr pb0 0,.int .i64 n_1] 0 = .ptr pb0 0:=rfl
 have zf1:zc [.ptr pb0 0,.int .i64 n_1] 1 = .int .i64 n_1:=rfl
 generalize zc [.ptr pb0 0,.int .i64 n_1]=fr0 at zf0 zf1 ⊢
 obtain ⟨v1,hx2,hF3⟩:=qi hF
 simp only [x87,qf,qe,qd,qa,qx1,zf0,zf1,zd,B0,reduceIte,reduceEqDiff]
 refine yp rfl (yy hW pb0 c_0 n_1 v1 hx2 hS) ?_
 rintro _ h4 ⟨rfl,hS5⟩
 simp only [qy,qb,yo,qd,qa,qz,B0,reduceIte,reduceEqDiff]
 have he:=qj hF3
 subst he
 simp only [ze,B0,reduceIte,reduceEqDiff]
 exact ⟨by first | trivial | rfl,hS5⟩
theorem ql2 {W:Nat→Bool}{h:Heap}{lo:Nat→Prop}{S0:List Obj} (hW:∀ b,
  lo b→W b=true) (pb0:Nat) (c_0:L1Cur) (pv1:XV) (pc1:List Obj) (list_1:List Int) (ph1:SlF cI 1 3 pv1 list_1 pc1) (r:Int × L1Cur × (List Int))
  (hF:qcu c_0 list_1=some r) (hS:Sep h lo ([Blk1 pb0 [lst cU8 c_0.code,.int .i64 c_0.at_,.int .u64 c_0.seed] 91]++(pc1++(S0)))) : Ret E W 88 [.ptr pb0 0,
  pv1] h (fun v h'=>∃ ic1,v = .int .i64 r.1∧SlF cI 1 3 pv1 r.2.2 ic1∧Sep h' lo ([Blk1 pb0 [lst cU8 r.2.1.code,.int .i64 r.2.1.at_,
  .int .u64 r.2.1.seed] 91]++(ic1++(S0)))):=by
 refine Ret.of (fn:=x88) rfl (Run.of ?_)
 unfold qcu at hF
 have zf0:zc [.ptr pb0 0,pv1] 0 = .ptr pb0 0:=rfl
 have zf1:zc [.ptr pb0 0,pv1] 1=pv1:=rfl
 generalize zc [.ptr pb0 0,pv1]=fr0 at zf0 zf1 ⊢
 obtain ⟨v1,hx2,hF3⟩:=qi hF
 simp only [x88,qf,qe,qd,qa,qw2,zf1,zf0,zw,qb,SlF.plen ph1,zd,B0,reduceIte,reduceEqDiff]
 refine yp rfl (yy hW pb0 c_0 (List.length list_1:Int) v1 hx2 hS) ?_
 rintro _ h4 ⟨rfl,hS5⟩
 obtain ⟨x6,hx7,hF8⟩:=qi hF3
 simp only [jz,B0,reduceIte,reduceEqDiff]
 obtain ⟨b9,hb10⟩:=SlF.isrow ph1 (uf hx7)
 refine qh (SlF.ia ph1 hb10 hx7) ?_
 simp only [qn,B0,reduceIte,reduceEqDiff]
 refine qh (v := .int .i64 x6) ((SlF.ld (o:=0) ph1 (Sep.m1 hS5) hb10 hx7 (fun _=>rfl) (Nat.le_of_ble_eq_true rfl)).trans rfl) ?_
 simp only [qd,qa,qz,B0,reduceIte,reduceEqDiff]
 have he:=qj hF8
 subst he
 simp only [ze,B0,reduceIte,reduceEqDiff]
 exact ⟨pc1,by first | trivial | rfl,ph1,(Sep.m1 (Sep.m1 hS5))⟩
end Go.Proofs.Ytefgfcalgjmhjaa.X
