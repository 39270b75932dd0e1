/- The functions' code comes to what the plain functions say (2). -/
import Derived.Test.YtefgfcalgjmhjaaXGH1
set_option linter.unusedVariables false
set_option linter.unusedSimpArgs false
set_option maxRecDepth 100000
namespace Go.Proofs.Ytefgfcalgjmhjaa.X
open Go
open Nat (reduceEqDiff)
theorem x8 {W:Nat→Bool}{h:Heap} (hW:∀ b,
  (geL h.length) b→W b=true) (k:Nat) (g_0:Group) (k_1:Int) (r:Int) (hF:k6 k g_0 k_1=some r) : Ret E W 69 [.agg [.int .i64 g_0.Epoch,
  .int .i64 g_0.Leader,lst cI g_0.InStep,.int .i64 g_0.High,lst Replica.cells g_0.Replicas],
  .int .i64 k_1] h (fun v h'=>cut h.length h' E.sz false 9 v=some (.int .i64 r)):=by
 refine Ret.of (fn:=x69) rfl (Run.of ?_)
 unfold k6 at hF
 have zf0:ze [.agg [.int .i64 g_0.Epoch,.int .i64 g_0.Leader,lst cI g_0.InStep,.int .i64 g_0.High,lst Replica.cells g_0.Replicas],
   .int .i64 k_1] 0 = .agg [.int .i64 g_0.Epoch,.int .i64 g_0.Leader,lst cI g_0.InStep,.int .i64 g_0.High,lst Replica.cells g_0.Replicas]:=rfl
 have zf1:ze [.agg [.int .i64 g_0.Epoch,.int .i64 g_0.Leader,lst cI g_0.InStep,.int .i64 g_0.High,lst Replica.cells g_0.Replicas],.int .i64 k_1] 1 = .int .i64 k_1:=rfl
 generalize ze [.agg [.int .i64 g_0.Epoch,.int .i64 g_0.Leader,lst cI g_0.InStep,.int .i64 g_0.High,lst Replica.cells g_0.Replicas],.int .i64 k_1]=fr0 at zf0 zf1 ⊢
 have hS:Sep h (geL h.length) []:=Sep.nil h
 simp only [x69,qe,qd,kp,zf0,B0,reduceIte,reduceEqDiff]
 refine jz (cs:=[.int .i64 g_0.Epoch,.int .i64 g_0.Leader,lst cI g_0.InStep,.int .i64 g_0.High,lst Replica.cells g_0.Replicas]) hS rfl rfl rfl (fun b1 h2 hS3=>?_)
 simp only [qc,qa,B0,reduceIte,reduceEqDiff]
 refine zz hS3 hW (by simp only [B0,reduceIte,reduceEqDiff]) (fun h5 hS6=>?_)
 simp only [zw,q0k,qe,jh,zq,qg,Nat.reduceAdd,Nat.zero_add,Nat.add_zero,qr,zm,B0,reduceIte,reduceEqDiff]
 refine qq (v:=lst Replica.cells g_0.Replicas) rfl ?_
 obtain ⟨x7,hx8,hF9⟩:=qi hF
 simp only [zf1,zp,qg,wo,B0,reduceIte,reduceEqDiff]
 refine qq (v := .ref (Replica.cells x7) 0) (kz hx8 rfl) ?_
 simp only [zq,qg,Nat.reduceAdd,Nat.zero_add,Nat.add_zero,qr,zm,B0,reduceIte,reduceEqDiff]
 refine qq (v:=lst Row.cells x7.Log) rfl ?_
 simp only [zq,qg,Nat.reduceAdd,Nat.zero_add,Nat.add_zero,qr,zm,B0,reduceIte,reduceEqDiff]
 refine qq (v:=lst Replica.cells g_0.Replicas) rfl ?_
 simp only [zq,qg,Nat.reduceAdd,Nat.zero_add,Nat.add_zero,qr,zm,B0,reduceIte,reduceEqDiff]
 refine qq (v := .int .i64 g_0.Leader) rfl ?_
 obtain ⟨x10,hx11,hF12⟩:=qi hF9
 simp only [wo,B0,reduceIte,reduceEqDiff]
 refine qq (v := .ref (Replica.cells x10) 0) (kz hx11 rfl) ?_
 simp only [zq,qg,Nat.reduceAdd,Nat.zero_add,Nat.add_zero,qr,zm,B0,reduceIte,reduceEqDiff]
 refine qq (v:=lst Row.cells x10.Log) rfl ?_
 simp only [zp,qg,qu,qxg,qe,qd,qc,qa,qy8,B0,reduceIte,reduceEqDiff]
 obtain ⟨oc17,hX19,hk20⟩:=kq hF12
 simp only [q24]
 refine qfn (σ:=Int) (fun s60=>xq x7 x10 s60)
   (fun s fr' h'=>fr' 5=lst Row.cells x7.Log∧fr' 6=lst Row.cells x10.Log∧fr' 7 = .int .i64 s∧Sep h' (geL h.length) ([])) hX19 ⟨rfl,rfl,rfl,
   hS6⟩ (fun _ _ _ h=>h) ?_ ?_
 ·rintro s14 fr29 h30 ⟨f32,f33,f34,hS31⟩ oc18 hF21 hr22 Q23 hN24 hK25 hR26 hE27
  unfold xq at hF21
  simp only [qw7,qe,jh,f34,zp,qg,f32,qd2,jl,f33,q53,qo9,kh,u0,B0,reduceIte,reduceEqDiff]
  obtain ⟨v39,hx40,hF41⟩:=qi hF21
  refine qak 10 (fun fr' h'=>Sep h' (geL h.length) ([])∧fr' 38 = .bool v39∧fr' 5=lst Row.cells x7.Log∧fr' 6=lst Row.cells x10.Log∧fr' 7 = .int .i64 s14) rfl
    (fun Q36 hN37=>?_) ?_
  ·simp only [List.take_succ_cons,List.take_zero]
   simp only [qn (g:=28),B0,reduceIte,reduceEqDiff]
   refine jg (t:=(decide (s14<(mnI (List.length x7.Log:Int) (List.length x10.Log:Int))))) (fun hg38=>?_) (fun hg38=>?_)
   ·rw [iteT hg38] at hx40
    obtain ⟨x42,hx43,hF44⟩:=qi hx40
    simp only [hg38,qn (g:=28),zc,f32,zp,qg,f34,wo,B0,reduceIte,reduceEqDiff]
    refine qq (v := .ref (Row.cells x42) 0) (kz hx43 rfl) ?_
    simp only [hg38,qn (g:=28),zc,zm,B0,reduceIte,reduceEqDiff]
    refine qq (v := .agg [.int .i64 x42.Epoch,.int .i64 x42.Value]) rfl ?_
    obtain ⟨x45,hx46,hF47⟩:=qi hF44
    simp only [hg38,qn (g:=28),zc,f33,zp,qg,f34,wo,B0,reduceIte,reduceEqDiff]
    refine qq (v := .ref (Row.cells x45) 0) (kz hx46 rfl) ?_
    simp only [hg38,qn (g:=28),zc,zm,B0,reduceIte,reduceEqDiff]
    refine qq (v := .agg [.int .i64 x45.Epoch,.int .i64 x45.Value]) rfl ?_
    simp only [hg38,qn (g:=28),zc,qmc,B0,reduceIte,reduceEqDiff]
    refine qq (v := .bool ((x42.Epoch == x45.Epoch)&&((x42.Value == x45.Value)&&true))) rfl ?_
    simp only [hg38,z8,qg,zh,qu,qo,B0,reduceIte,reduceEqDiff]
    have e48:=ql hF47
    exact hN37 _ _ ⟨hS31,by rw [←e48]; simp only [B0,reduceIte,reduceEqDiff],f32,f33,f34⟩
   ·rw [iteF hg38] at hx40
    simp only [hg38,qn (g:=28),ky,z8,qg,zi,qu,qo,B0,reduceIte,reduceEqDiff]
    have e49:=ql hx40
    exact hN37 _ _ ⟨hS31,by rw [←e49]; simp only [B0,reduceIte,reduceEqDiff],f32,f33,f34⟩
  rintro fr50 h55 ⟨hS56,f51,f52,f53,f54⟩
  simp only [List.drop_succ_cons,List.drop_zero]
  simp only [qu,f51,zb,B0,reduceIte,reduceEqDiff]
  refine zd (t:=v39) (fun hc57=>?_) (fun hc57=>?_)
  ·rw [iteT hc57] at hF41
   simp only [zk,w6,qd,f54,qc,q9,qb,qbf,qa,wb,qo,B0,reduceIte,reduceEqDiff]
   have e58:=ql hF41
   exact hN24 _ _ _ e58.symm ⟨f52,f53,rfl,hS56⟩
  rw [iteF hc57] at hF41
  simp only [qdq,qci,qdt,B0,reduceIte,reduceEqDiff]
  have e59:=ql hF41
  exact hK25 _ _ _ e59.symm ⟨f52,f53,f54,hS56⟩
 rintro s61 fr62 h63 rfl ⟨f65,f66,f67,hS64⟩
 dsimp only [jnO] at hk20
 unfold qea at hk20
 simp only [qe,qd,f67,qc,qa,q8,B0,reduceIte,reduceEqDiff]
 have he:=ql hk20
 subst he
 simp only [zj,B0,reduceIte,reduceEqDiff]
 exact rfl
theorem qis {W:Nat→Bool}{h:Heap} (hW:∀ b,
  (geL h.length) b→W b=true) (list_0:List Int) (many_1:Int) (r:Bool) (hF:qa6 list_0 many_1=some r) : Ret E W 80 [lst cI list_0,
  .int .i64 many_1] h (fun v h'=>cut h.length h' E.sz false 9 v=some (.bool r)):=by
 refine Ret.of (fn:=x80) rfl (Run.of ?_)
 unfold qa6 at hF
 have zf0:ze [lst cI list_0,.int .i64 many_1] 0=lst cI list_0:=rfl
 have zf1:ze [lst cI list_0,.int .i64 many_1] 1 = .int .i64 many_1:=rfl
 generalize ze [lst cI list_0,.int .i64 many_1]=fr0 at zf0 zf1 ⊢
 have hS:Sep h (geL h.length) []:=Sep.nil h
 simp only [x80,qe,qd,qc,qa,q0d,zf0,jb,qb,jl,B0,reduceIte,reduceEqDiff]
 obtain ⟨oc3,hX5,hk6⟩:=kq hF
 simp only [qzb]
 refine xl (σ:=Unit) list_0 (fun i1 x2 _=>qa7 list_0 many_1 i1 x2 )
   (fun s fr' h'=>fr' 0=lst cI list_0∧fr' 1 = .int .i64 many_1∧fr' 7=lst cI list_0∧Sep h' (geL h.length) ([])) hX5 ⟨zf0,zf1,rfl,hS⟩ (by simp only [B0,reduceIte,
   reduceEqDiff]) (by simp only [B0,reduceIte,reduceEqDiff]) (fun _ _ _ h=>h) rfl rfl (fun _ _ _ _ h=>h) (fun _ _ _ _ h=>h) (fun _ _ _ _ h=>h) (by decide) ?_ ?_
 ·rintro i1 x2 _ fr15 h16 hx21 ⟨f18,f19,f20,hS17⟩ f22 f23 oc4 hF7 hr8 Q9 hN10 hB14 hK11 hR12 hE13
  unfold qa7 at hF7
  simp only [q14,qe,qd,f22,qc,f20,j0,B0,reduceIte,reduceEqDiff]
  refine qj (v := .ref (cI x2) 0) (xw hx21 rfl) ?_
  simp only [qp,B0,reduceIte,reduceEqDiff]
  refine qj (v := .int .i64 x2) rfl ?_
  simp only [qc,qa,q08,qe,qd,f19,q9,qb,qdd,za,B0,reduceIte,reduceEqDiff]
  refine js rfl (qh qm (qh qm (qh qm qz))) (w8 (fun b hb=>decide_eq_true hb) x2 0 (IntKind.wrap .i64 (many_1 - 1)) _ rfl) ?_
  simp only [ka,qb,kx,qc,B0,reduceIte,reduceEqDiff]
  obtain ⟨v27,hx28,hF29⟩:=qi hF7
  refine ji 12 (fun fr' h'=>Sep h' (geL h.length) ([])∧fr' 31 = .bool v27∧fr' 0=lst cI list_0∧fr' 1 = .int .i64 many_1∧fr' 7=lst cI list_0∧fr' 8 = .int .i64
    (List.length list_0:Int)∧fr' 9 = .int .i64 (i1:Int)) (fun Q24 hN25=>?_) ?_
  ·simp only [List.take_succ_cons,List.take_zero]
   simp only [qf (g:=19),B0,reduceIte,reduceEqDiff]
   refine zf (t:=(!(z7 x2 0 (IntKind.wrap .i64 (many_1 - 1))))) (fun hg26=>?_) (fun hg26=>?_)
   ·rw [iteT hg26] at hx28
    simp only [hg26,qf (g:=19),jf,qf (g:=22),qgi,qt,qb,zh,qa,qo,B0,reduceIte,reduceEqDiff]
    have e30:=ql hx28
    exact hN25 _ _ ⟨hS17,by rw [←e30]; simp only [B0,reduceIte,reduceEqDiff],f18,f19,f20,f23,f22⟩
   ·rw [iteF hg26] at hx28
    simp only [hg26,qf (g:=19),qv,qc,q9,qb,qcv,B0,reduceIte,reduceEqDiff]
    obtain ⟨v34,hx35,hF36⟩:=qi hx28
    refine ji 8 (fun fr' h'=>Sep h' (geL h.length)
      ([])∧fr' 30 = .bool v34∧fr' 0=lst cI list_0∧fr' 1 = .int .i64 many_1∧fr' 7=lst cI list_0∧fr' 8 = .int .i64
      (List.length list_0:Int)∧fr' 9 = .int .i64 (i1:Int)∧fr' 19 = .bool (!(z7 x2 0 (IntKind.wrap .i64 (many_1 - 1))))) (fun Q31 hN32=>?_) ?_
    ·simp only [List.take_succ_cons,List.take_zero]
     simp only [qf (g:=22),B0,reduceIte,reduceEqDiff]
     refine zf (t:=(decide ((0:Int)<(i1:Int)))) (fun hg33=>?_) (fun hg33=>?_)
     ·rw [iteT hg33] at hx35
      obtain ⟨x37,hx38,hF39⟩:=qi hx35
      simp only [hg33,qf (g:=22),zl,f18,qc,q9,qb,qdd,j0,B0,reduceIte,reduceEqDiff]
      refine qj (v := .ref (cI x37) 0) (kz hx38 rfl) ?_
      simp only [hg33,qf (g:=22),zl,qp,B0,reduceIte,reduceEqDiff]
      refine qj (v := .int .i64 x37) rfl ?_
      simp only [hg33,qf (g:=22),zl,qc,q9,qb,qht,hg26,qf (g:=19),qv,qt,zh,qa,qo,
        B0,reduceIte,reduceEqDiff]
      have e40:=ql hF39
      exact hN32 _ _ ⟨hS17,by rw [←e40]; simp only [B0,reduceIte,reduceEqDiff],f18,f19,f20,f23,f22,by simp only [hg26,B0,reduceIte,reduceEqDiff]⟩
     ·rw [iteF hg33] at hx35
      simp only [hg33,qf (g:=22),jo,hg26,qf (g:=19),qv,qt,qb,zi,qa,qo,B0,reduceIte,
        reduceEqDiff]
      have e41:=ql hx35
      exact hN32 _ _ ⟨hS17,by rw [←e41]; simp only [B0,reduceIte,reduceEqDiff],f18,f19,f20,f23,f22,by simp only [hg26,B0,reduceIte,reduceEqDiff]⟩
    rintro fr42 h50 ⟨hS51,f43,f44,f45,f46,f47,f48,f49⟩
    simp only [List.drop_succ_cons,List.drop_zero]
    simp only [f49,hg26,qt,qb,zi,f43,qa,qo,B0,reduceIte,reduceEqDiff]
    have e52:=ql hF36
    exact hN25 _ _ ⟨hS51,by rw [←e52]; simp only [B0,reduceIte,reduceEqDiff],f44,f45,f46,f47,f48⟩
  rintro fr53 h60 ⟨hS61,f54,f55,f56,f57,f58,f59⟩
  simp only [List.drop_succ_cons,List.drop_zero]
  simp only [qa,f54,zb,B0,reduceIte,reduceEqDiff]
  refine zd (t:=v27) (fun hc62=>?_) (fun hc62=>?_)
  ·rw [iteT hc62] at hF29
   simp only [qe,qd,qc,qa,q8,B0,reduceIte,reduceEqDiff]
   have e63:=ql hF29
   subst e63
   have ho64:=hr8 _ rfl
   have hk65:=hk6
   rw [ho64] at hk65
   dsimp only [jnO] at hk65
   apply hR12
   have he:=ql hk65
   subst he
   simp only [zj,B0,reduceIte,reduceEqDiff]
   exact rfl
  rw [iteF hc62] at hF29
  simp only [zk,qo,B0,reduceIte,reduceEqDiff]
  have e66:=ql hF29
  exact hN10 _ _ _ e66.symm ⟨f55,f56,f57,hS61⟩ (f59) (f58)
 rintro _ fr68 h69 rfl ⟨f71,f72,f73,hS70⟩
 dsimp only [jnO] at hk6
 unfold qez at hk6
 simp only [qe,qd,qc,qa,q8,B0,reduceIte,reduceEqDiff]
 have he:=ql hk6
 subst he
 simp only [zj,B0,reduceIte,reduceEqDiff]
 exact rfl
theorem qh2 {W:Nat→Bool}{h:Heap} (hW:∀ b,
  (geL h.length) b→W b=true) (s_0:List Int) (v_1:Int) (r:Int) (hF:qbu s_0 v_1=some r) : Ret E W 94 [lst cI s_0,
  .int .i64 v_1] h (fun v h'=>cut h.length h' E.sz false 9 v=some (.int .i64 r)):=by
 refine Ret.of (fn:=x94) rfl (Run.of ?_)
 unfold qbu at hF
 have zf0:ze [lst cI s_0,.int .i64 v_1] 0=lst cI s_0:=rfl
 have zf1:ze [lst cI s_0,.int .i64 v_1] 1 = .int .i64 v_1:=rfl
 generalize ze [lst cI s_0,.int .i64 v_1]=fr0 at zf0 zf1 ⊢
 have hS:Sep h (geL h.length) []:=Sep.nil h
 simp only [x94,qe,qd,qc,qa,q2t,zf0,jb,qb,jl,B0,reduceIte,reduceEqDiff]
 obtain ⟨oc3,hX5,hk6⟩:=kq hF
 simp only [q0y]
 refine xl (σ:=Unit) s_0 (fun i1 x2 _=>ua v_1 i1 x2 ) (fun s fr' h'=>fr' 0=lst cI s_0∧fr' 1 = .int .i64 v_1∧Sep h' (geL h.length)
   ([])) hX5 ⟨zf0,zf1,hS⟩ (by simp only [B0,reduceIte,reduceEqDiff]) (by simp only [B0,reduceIte,
   reduceEqDiff]) (fun _ _ _ h=>h) rfl rfl (fun _ _ _ _ h=>h) (fun _ _ _ _ h=>h) (fun _ _ _ _ h=>h) (by decide) ?_ ?_
 ·rintro i1 x2 _ fr15 h16 hx20 ⟨f18,f19,hS17⟩ f21 f22 oc4 hF7 hr8 Q9 hN10 hB14 hK11 hR12 hE13
  unfold ua at hF7
  simp only [q0x,qe,qd,f21,qc,qa,qwv,f19,f18,j0,B0,reduceIte,reduceEqDiff]
  refine qj (v := .ref (cI x2) 0) (xw hx20 rfl) ?_
  simp only [qp,B0,reduceIte,reduceEqDiff]
  refine qj (v := .int .i64 x2) rfl ?_
  simp only [q9,qb,yd,qa,q0t,zb,B0,reduceIte,reduceEqDiff]
  refine zd (t:=(decide (v_1=x2))) (fun hc23=>?_) (fun hc23=>?_)
  ·rw [iteT hc23] at hF7
   simp only [qe,qd,qc,qa,q8,B0,reduceIte,reduceEqDiff]
   have e24:=ql hF7
   subst e24
   have ho25:=hr8 _ rfl
   have hk26:=hk6
   rw [ho25] at hk26
   dsimp only [jnO] at hk26
   apply hR12
   have he:=ql hk26
   subst he
   simp only [zj,B0,reduceIte,reduceEqDiff]
   exact rfl
  rw [iteF hc23] at hF7
  simp only [zk,qo,B0,reduceIte,reduceEqDiff]
  have e27:=ql hF7
  exact hN10 _ _ _ e27.symm ⟨f18,f19,hS17⟩ (f21) (f22)
 rintro _ fr29 h30 rfl ⟨f32,f33,hS31⟩
 dsimp only [jnO] at hk6
 unfold qed at hk6
 simp only [qe,qd,qc,qa,q8,B0,reduceIte,reduceEqDiff]
 have he:=ql hk6
 subst he
 simp only [zj,B0,reduceIte,reduceEqDiff]
 exact rfl
theorem qbk {W:Nat→Bool}{h:Heap} (hW:∀ b,
  (geL h.length) b→W b=true) (s_0:List Int) (v_1:Int) (r:Bool) (hF:yk s_0 v_1=some r) : Ret E W 81 [lst cI s_0,
  .int .i64 v_1] h (fun v h'=>cut h.length h' E.sz false 9 v=some (.bool r)):=by
 refine Ret.of (fn:=x81) rfl (Run.of ?_)
 unfold yk at hF
 have zf0:ze [lst cI s_0,.int .i64 v_1] 0=lst cI s_0:=rfl
 have zf1:ze [lst cI s_0,.int .i64 v_1] 1 = .int .i64 v_1:=rfl
 generalize ze [lst cI s_0,.int .i64 v_1]=fr0 at zf0 zf1 ⊢
 have hS:Sep h (geL h.length) []:=Sep.nil h
 obtain ⟨v1,hx2,hF3⟩:=qi hF
 simp only [x81,qe,qd,qc,qa,q0n,zf0,zf1,za,B0,reduceIte,reduceEqDiff]
 refine js rfl (qh zo (qh qm qz)) (qh2 (fun b hb=>decide_eq_true hb) s_0 v_1 v1 hx2) ?_
 simp only [q9,qb,qht,qc,qa,q8,B0,reduceIte,reduceEqDiff]
 have he:=ql hF3
 subst he
 simp only [zj,B0,reduceIte,reduceEqDiff]
 exact rfl
theorem qlv {W:Nat→Bool}{h:Heap} (hW:∀ b,
  (geL h.length) b→W b=true) (l_0:List Row) (most_1:Int) (r:Bool) (hF:qdf l_0 most_1=some r) : Ret E W 82 [lst Row.cells l_0,
  .int .i64 most_1] h (fun v h'=>cut h.length h' E.sz false 9 v=some (.bool r)):=by
 refine Ret.of (fn:=x82) rfl (Run.of ?_)
 unfold qdf at hF
 have zf0:ze [lst Row.cells l_0,.int .i64 most_1] 0=lst Row.cells l_0:=rfl
 have zf1:ze [lst Row.cells l_0,.int .i64 most_1] 1 = .int .i64 most_1:=rfl
 generalize ze [lst Row.cells l_0,.int .i64 most_1]=fr0 at zf0 zf1 ⊢
 have hS:Sep h (geL h.length) []:=Sep.nil h
 simp only [x82,qe,qd,qc,qa,qzr,q15,zf0,jb,qb,jl,B0,reduceIte,reduceEqDiff]
 obtain ⟨oc5,hX7,hk8⟩:=kq hF
 simp only [qyl]
 refine xl (σ:=Int) l_0 (fun i3 x4 s53=>qae most_1 i3 x4 s53)
   (fun s fr' h'=>fr' 0=lst Row.cells l_0∧fr' 1 = .int .i64 most_1∧fr' 5 = .int .i64 s∧fr' 8=lst Row.cells l_0∧Sep h' (geL h.length) ([])) hX7 ⟨zf0,zf1,rfl,
   rfl,hS⟩ (by simp only [B0,reduceIte,reduceEqDiff]) (by simp only [B0,reduceIte,
   reduceEqDiff]) (fun _ _ _ h=>h) rfl rfl (fun _ _ _ _ h=>h) (fun _ _ _ _ h=>h) (fun _ _ _ _ h=>h) (by decide) ?_ ?_
 ·rintro i3 x4 s2 fr17 h18 hx24 ⟨f20,f21,f22,f23,hS19⟩ f25 f26 oc6 hF9 hr10 Q11 hN12 hB16 hK13 hR14 hE15
  unfold qae at hF9
  simp only [q27,qe,qd,f23,f25,j0,B0,reduceIte,reduceEqDiff]
  refine qj (v := .ref (Row.cells x4) 0) (xw hx24 rfl) ?_
  simp only [qp,B0,reduceIte,reduceEqDiff]
  refine qj (v := .agg [.int .i64 x4.Epoch,.int .i64 x4.Value]) rfl ?_
  simp only [je,B0,reduceIte,reduceEqDiff]
  refine zt hS19 (fun b27 h28 hS29=>?_)
  simp only [zg,B0,reduceIte,reduceEqDiff]
  refine qy (us:=[.int .i64 x4.Epoch,.int .i64 x4.Value]) rfl (cs':=[.int .i64 x4.Epoch,
    .int .i64 x4.Value]) hS29 hW rfl rfl (Nat.le_of_ble_eq_true rfl) rfl (fun h31 hS32=>?_)
  simp only [qa,B0,reduceIte,reduceEqDiff]
  refine zz hS32 hW (by simp only [B0,reduceIte,reduceEqDiff]) (fun h33 hS34=>?_)
  simp only [zw,q2l,qe,qd,qs,qb,Nat.reduceAdd,Nat.zero_add,Nat.add_zero,qr,qp,B0,reduceIte,reduceEqDiff]
  refine qj (v := .int .i64 x4.Epoch) rfl ?_
  simp only [f22,qc,f21,za,B0,reduceIte,reduceEqDiff]
  refine js rfl (qh qm (qh qm (qh qm qz))) (w8 (fun b hb=>decide_eq_true hb) x4.Epoch s2 most_1 _ rfl) ?_
  simp only [ka,qb,kx,qc,B0,reduceIte,reduceEqDiff]
  refine ji 5 (fun fr' h'=>Sep h' (geL h.length) ([])∧fr' 25 = .bool ((!(z7 x4.Epoch s2 most_1)) ||
    (!(z7 x4.Value 0 99)))∧fr' 0=lst Row.cells l_0∧fr' 1 = .int .i64 most_1∧fr' 7 = .ref [.int .i64 x4.Epoch,
    .int .i64 x4.Value] 0∧fr' 8=lst Row.cells l_0∧fr' 9 = .int .i64 (List.length l_0:Int)∧fr' 10 = .int .i64 (i3:Int)) (fun Q35 hN36=>?_) ?_
  ·simp only [List.take_succ_cons,List.take_zero]
   simp only [qf (g:=20),B0,reduceIte,reduceEqDiff]
   refine zf (t:=(!(z7 x4.Epoch s2 most_1))) (fun hg37=>?_) (fun hg37=>?_)
   ·simp only [hg37,qf (g:=20),jf,qt,qb,zh,qa,qo,B0,reduceIte,reduceEqDiff]
    exact hN36 _ _ ⟨hS34,by rw [orT hg37]; simp only [B0,reduceIte,reduceEqDiff],f20,f21,rfl,f23,f26,f25⟩
   ·simp only [hg37,qf (g:=20),qv,qs,qb,Nat.reduceAdd,Nat.zero_add,Nat.add_zero,qr,qp,B0,reduceIte,reduceEqDiff]
    refine qj (v := .int .i64 x4.Value) rfl ?_
    simp only [hg37,qf (g:=20),qv,za,B0,reduceIte,reduceEqDiff]
    refine js rfl (qh qm (qh qm (qh qm qz))) (w8 (fun b hb=>decide_eq_true hb) x4.Value 0 99 _ rfl) ?_
    simp only [hg37,qf (g:=20),qv,ka,qb,kx,qt,zi,qa,qo,B0,reduceIte,reduceEqDiff]
    exact hN36 _ _ ⟨hS34,by rw [orF hg37]; simp only [B0,reduceIte,reduceEqDiff],f20,f21,rfl,f23,f26,f25⟩
  rintro fr38 h46 ⟨hS47,f39,f40,f41,f42,f43,f44,f45⟩
  simp only [List.drop_succ_cons,List.drop_zero]
  simp only [qa,f39,zb,B0,reduceIte,reduceEqDiff]
  refine zd (t:=((!(z7 x4.Epoch s2 most_1))||(!(z7 x4.Value 0 99)))) (fun hc48=>?_) (fun hc48=>?_)
  ·rw [iteT hc48] at hF9
   simp only [qe,qd,qc,qa,q8,B0,reduceIte,reduceEqDiff]
   have e49:=ql hF9
   subst e49
   have ho50:=hr10 _ rfl
   have hk51:=hk8
   rw [ho50] at hk51
   dsimp only [jnO] at hk51
   apply hR14
   have he:=ql hk51
   subst he
   simp only [zj,B0,reduceIte,reduceEqDiff]
   exact rfl
  rw [iteF hc48] at hF9
  simp only [zk,qd,f42,qs,qb,Nat.reduceAdd,Nat.zero_add,Nat.add_zero,qr,qp,B0,reduceIte,reduceEqDiff]
  refine qj (v := .int .i64 x4.Epoch) rfl ?_
  simp only [qc,qa,qo,B0,reduceIte,reduceEqDiff]
  have e52:=ql hF9
  exact hN12 _ _ _ e52.symm ⟨f40,f41,rfl,f43,hS47⟩ (f45) (f44)
 rintro s54 fr55 h56 rfl ⟨f58,f59,f60,f61,hS57⟩
 dsimp only [jnO] at hk8
 unfold qg1 at hk8
 simp only [q2o,qe,qd,f58,qc,jb,qb,jl,q9,qi8,qa,q8,B0,reduceIte,reduceEqDiff]
 have he:=ql hk8
 subst he
 simp only [zj,B0,reduceIte,reduceEqDiff]
 exact rfl
theorem qbr {W:Nat→Bool}{h:Heap} (hW:∀ b,
  (geL h.length) b→W b=true) (k:Nat) (v_0:Group) (r:Bool) (hF:ws k v_0=some r) : Ret E W 52 [.agg [.int .i64 v_0.Epoch,.int .i64 v_0.Leader,
  lst cI v_0.InStep,.int .i64 v_0.High,lst Replica.cells v_0.Replicas]] h (fun v h'=>cut h.length h' E.sz false 9 v=some (.bool r)):=by
 refine Ret.of (fn:=x52) rfl (Run.of ?_)
 unfold ws at hF
 have zf0:ze [.agg [.int .i64 v_0.Epoch,.int .i64 v_0.Leader,lst cI v_0.InStep,.int .i64 v_0.High,lst Replica.cells v_0.Replicas]] 0 = .agg [.int .i64 v_0.Epoch,
   .int .i64 v_0.Leader,lst cI v_0.InStep,.int .i64 v_0.High,lst Replica.cells v_0.Replicas]:=rfl
 generalize ze [.agg [.int .i64 v_0.Epoch,.int .i64 v_0.Leader,lst cI v_0.InStep,.int .i64 v_0.High,lst Replica.cells v_0.Replicas]]=fr0 at zf0 ⊢
 have hS:Sep h (geL h.length) []:=Sep.nil h
 simp only [x52,qe,qd,kp,zf0,B0,reduceIte,reduceEqDiff]
 refine jz (cs:=[.int .i64 v_0.Epoch,.int .i64 v_0.Leader,lst cI v_0.InStep,.int .i64 v_0.High,lst Replica.cells v_0.Replicas]) hS rfl rfl rfl (fun b1 h2 hS3=>?_)
 simp only [qc,qa,B0,reduceIte,reduceEqDiff]
 refine zz hS3 hW (by simp only [B0,reduceIte,reduceEqDiff]) (fun h5 hS6=>?_)
 simp only [zw,qxh,qe,qd,qs,qb,Nat.reduceAdd,Nat.zero_add,Nat.add_zero,qr,qp,B0,reduceIte,reduceEqDiff]
 refine qj (v:=lst Replica.cells v_0.Replicas) rfl ?_
 simp only [jb,qb,jl,qc,qa,q1u,qe,qd,za,B0,reduceIte,reduceEqDiff]
 refine js rfl (qh qm (qh qm (qh qm qz))) (w8 (fun b hb=>decide_eq_true hb) (List.length v_0.Replicas:Int) 2 4 _ rfl) ?_
 simp only [ka,qb,kx,qc,B0,reduceIte,reduceEqDiff]
 refine ji 5 (fun fr' h'=>Sep h' (geL h.length) ([])∧fr' 17 = .bool ((!(z7 (List.length v_0.Replicas:Int) 2 4)) ||
   (!(z7 v_0.Epoch 0 100)))∧fr' 1 = .ref [.int .i64 v_0.Epoch,.int .i64 v_0.Leader,lst cI v_0.InStep,.int .i64 v_0.High,
   lst Replica.cells v_0.Replicas] 0∧fr' 3 = .int .i64 (List.length v_0.Replicas:Int)) (fun Q7 hN8=>?_) ?_
 ·simp only [List.take_succ_cons,List.take_zero]
  simp only [qf (g:=12),B0,reduceIte,reduceEqDiff]
  refine zf (t:=(!(z7 (List.length v_0.Replicas:Int) 2 4))) (fun hg9=>?_) (fun hg9=>?_)
  ·simp only [hg9,qf (g:=12),jf,qt,qb,zh,qa,qo,B0,reduceIte,reduceEqDiff]
   exact hN8 _ _ ⟨hS6,by rw [orT hg9]; simp only [B0,reduceIte,reduceEqDiff],rfl,rfl⟩
  ·simp only [hg9,qf (g:=12),qv,qs,qb,Nat.reduceAdd,Nat.zero_add,Nat.add_zero,qr,qp,B0,reduceIte,reduceEqDiff]
   refine qj (v := .int .i64 v_0.Epoch) rfl ?_
   simp only [hg9,qf (g:=12),qv,za,B0,reduceIte,reduceEqDiff]
   refine js rfl (qh qm (qh qm (qh qm qz))) (w8 (fun b hb=>decide_eq_true hb) v_0.Epoch 0 100 _ rfl) ?_
   simp only [hg9,qf (g:=12),qv,ka,qb,kx,qt,zi,qa,qo,B0,reduceIte,reduceEqDiff]
   exact hN8 _ _ ⟨hS6,by rw [orF hg9]; simp only [B0,reduceIte,reduceEqDiff],rfl,rfl⟩
 rintro fr10 h14 ⟨hS15,f11,f12,f13⟩
 simp only [List.drop_succ_cons,List.drop_zero]
 simp only [f11,qc,B0,reduceIte,reduceEqDiff]
 refine ji 7 (fun fr' h'=>Sep h' (geL h.length) ([])∧fr' 25 = .bool (((!(z7 (List.length v_0.Replicas:Int) 2 4))||(!(z7 v_0.Epoch 0 100))) ||
   (!(z7 v_0.Leader 0 (IntKind.wrap .i64 ((List.length v_0.Replicas:Int) - 1)))))∧fr' 1 = .ref [.int .i64 v_0.Epoch,.int .i64 v_0.Leader,lst cI v_0.InStep,
   .int .i64 v_0.High,lst Replica.cells v_0.Replicas] 0∧fr' 3 = .int .i64 (List.length v_0.Replicas:Int)) (fun Q16 hN17=>?_) ?_
 ·simp only [List.take_succ_cons,List.take_zero]
  simp only [qf (g:=18),B0,reduceIte,reduceEqDiff]
  refine zf (t:=((!(z7 (List.length v_0.Replicas:Int) 2 4))||(!(z7 v_0.Epoch 0 100)))) (fun hg18=>?_) (fun hg18=>?_)
  ·simp only [hg18,qf (g:=18),jf,qt,qb,zh,qa,qo,B0,reduceIte,reduceEqDiff]
   exact hN17 _ _ ⟨hS15,by rw [orT hg18]; simp only [B0,reduceIte,reduceEqDiff],f12,f13⟩
  ·simp only [hg18,qf (g:=18),qv,f12,qs,qb,Nat.reduceAdd,Nat.zero_add,Nat.add_zero,qr,qp,B0,reduceIte,reduceEqDiff]
   refine qj (v := .int .i64 v_0.Leader) rfl ?_
   simp only [hg18,qf (g:=18),qv,f13,qc,q9,qb,qdd,za,B0,reduceIte,reduceEqDiff]
   refine js rfl (qh qm (qh qm (qh qm qz))) (w8 (fun b hb=>decide_eq_true hb) v_0.Leader 0 (IntKind.wrap .i64
     ((List.length v_0.Replicas:Int) - 1)) _ rfl) ?_
   simp only [hg18,qf (g:=18),qv,ka,qb,kx,qt,zi,qa,qo,B0,reduceIte,reduceEqDiff]
   exact hN17 _ _ ⟨hS15,by rw [orF hg18]; simp only [B0,reduceIte,reduceEqDiff],f12,f13⟩
 rintro fr19 h23 ⟨hS24,f20,f21,f22⟩
 simp only [List.drop_succ_cons,List.drop_zero]
 simp only [f20,qc,B0,reduceIte,reduceEqDiff]
 obtain ⟨v28,hx29,hF30⟩:=qi hF
 refine ji 6 (fun fr' h'=>Sep h' (geL h.length) ([])∧fr' 32 = .bool v28∧fr' 1 = .ref [.int .i64 v_0.Epoch,.int .i64 v_0.Leader,lst cI v_0.InStep,.int .i64 v_0.High,
   lst Replica.cells v_0.Replicas] 0) (fun Q25 hN26=>?_) ?_
 ·simp only [List.take_succ_cons,List.take_zero]
  simp only [qf (g:=26),B0,reduceIte,reduceEqDiff]
  refine zf (t:=(((!(z7 (List.length v_0.Replicas:Int) 2 4))||(!(z7 v_0.Epoch 0 100)))||(!(z7 v_0.Leader 0 (IntKind.wrap .i64
    ((List.length v_0.Replicas:Int) - 1)))))) (fun hg27=>?_) (fun hg27=>?_)
  ·rw [iteT hg27] at hx29
   simp only [hg27,qf (g:=26),jf,qt,qb,zh,qa,qo,B0,reduceIte,reduceEqDiff]
   have e31:=ql hx29
   exact hN26 _ _ ⟨hS24,by rw [←e31]; simp only [B0,reduceIte,reduceEqDiff],f21⟩
  ·rw [iteF hg27] at hx29
   simp only [hg27,qf (g:=26),qv,f21,qs,qb,Nat.reduceAdd,Nat.zero_add,Nat.add_zero,qr,qp,B0,reduceIte,reduceEqDiff]
   refine qj (v:=lst cI v_0.InStep) rfl ?_
   obtain ⟨v32,hx33,hF34⟩:=qi hx29
   simp only [hg27,qf (g:=26),qv,f22,qc,za,B0,reduceIte,reduceEqDiff]
   refine js rfl (qh zo (qh qm qz)) (qis (fun b hb=>decide_eq_true hb) v_0.InStep (List.length v_0.Replicas:Int) v32 hx33) ?_
   simp only [hg27,qf (g:=26),qv,ka,qb,kx,qt,zi,qa,qo,B0,reduceIte,reduceEqDiff]
   have e35:=ql hF34
   exact hN26 _ _ ⟨hS24,by rw [←e35]; simp only [B0,reduceIte,reduceEqDiff],f21⟩
 rintro fr36 h39 ⟨hS40,f37,f38⟩
 simp only [List.drop_succ_cons,List.drop_zero]
 simp only [f37,qc,B0,reduceIte,reduceEqDiff]
 obtain ⟨v44,hx45,hF46⟩:=qi hF30
 refine ji 7 (fun fr' h'=>Sep h' (geL h.length) ([])∧fr' 40 = .bool v44∧fr' 1 = .ref [.int .i64 v_0.Epoch,.int .i64 v_0.Leader,lst cI v_0.InStep,.int .i64 v_0.High,
   lst Replica.cells v_0.Replicas] 0) (fun Q41 hN42=>?_) ?_
 ·simp only [List.take_succ_cons,List.take_zero]
  simp only [qf (g:=33),B0,reduceIte,reduceEqDiff]
  refine zf (t:=v28) (fun hg43=>?_) (fun hg43=>?_)
  ·rw [iteT hg43] at hx45
   simp only [hg43,qf (g:=33),jf,qt,qb,zh,qa,qo,B0,reduceIte,reduceEqDiff]
   have e47:=ql hx45
   exact hN42 _ _ ⟨hS40,by rw [←e47]; simp only [B0,reduceIte,reduceEqDiff],f38⟩
  ·rw [iteF hg43] at hx45
   simp only [hg43,qf (g:=33),qv,f38,qs,qb,Nat.reduceAdd,Nat.zero_add,Nat.add_zero,qr,qp,B0,reduceIte,reduceEqDiff]
   refine qj (v:=lst cI v_0.InStep) rfl ?_
   simp only [hg43,qf (g:=33),qv,f38,qs,qb,Nat.reduceAdd,Nat.zero_add,Nat.add_zero,qr,qp,B0,reduceIte,reduceEqDiff]
   refine qj (v := .int .i64 v_0.Leader) rfl ?_
   obtain ⟨v48,hx49,hF50⟩:=qi hx45
   simp only [hg43,qf (g:=33),qv,za,B0,reduceIte,reduceEqDiff]
   refine js rfl (qh zo (qh qm qz)) (qbk (fun b hb=>decide_eq_true hb) v_0.InStep v_0.Leader v48 hx49) ?_
   simp only [hg43,qf (g:=33),qv,ka,qb,kx,qt,zi,qa,qo,B0,reduceIte,reduceEqDiff]
   have e51:=ql hF50
   exact hN42 _ _ ⟨hS40,by rw [←e51]; simp only [B0,reduceIte,reduceEqDiff],f38⟩
 rintro fr52 h55 ⟨hS56,f53,f54⟩
 simp only [List.drop_succ_cons,List.drop_zero]
 simp only [f53,qc,B0,reduceIte,reduceEqDiff]
 refine ji 4 (fun fr' h'=>Sep h' (geL h.length) ([])∧fr' 45 = .bool (v44||(decide (v_0.High<0)))∧fr' 1 = .ref [.int .i64 v_0.Epoch,.int .i64 v_0.Leader,
   lst cI v_0.InStep,.int .i64 v_0.High,lst Replica.cells v_0.Replicas] 0) (fun Q57 hN58=>?_) ?_
 ·simp only [List.take_succ_cons,List.take_zero]
  simp only [qf (g:=41),B0,reduceIte,reduceEqDiff]
  refine zf (t:=v44) (fun hg59=>?_) (fun hg59=>?_)
  ·simp only [hg59,qf (g:=41),jf,qt,qb,zh,qa,qo,B0,reduceIte,reduceEqDiff]
   exact hN58 _ _ ⟨hS56,by rw [orT hg59]; simp only [B0,reduceIte,reduceEqDiff],f54⟩
  ·simp only [hg59,qf (g:=41),qv,f54,qs,qb,Nat.reduceAdd,Nat.zero_add,Nat.add_zero,qr,qp,B0,reduceIte,reduceEqDiff]
   refine qj (v := .int .i64 v_0.High) rfl ?_
   simp only [hg59,qf (g:=41),qv,q9,qb,u0,qt,zi,qa,qo,B0,reduceIte,reduceEqDiff]
   exact hN58 _ _ ⟨hS56,by rw [orF hg59]; simp only [B0,reduceIte,reduceEqDiff],f54⟩
 rintro fr60 h63 ⟨hS64,f61,f62⟩
 simp only [List.drop_succ_cons,List.drop_zero]
 simp only [qa,f61,zb,B0,reduceIte,reduceEqDiff]
 refine zd (t:=(v44||(decide (v_0.High<0)))) (fun hc65=>?_) (fun hc65=>?_)
 ·rw [iteT hc65] at hF46
  simp only [qe,qd,qc,qa,q8,B0,reduceIte,reduceEqDiff]
  have he:=ql hF46
  subst he
  simp only [zj,B0,reduceIte,reduceEqDiff]
  exact rfl
 rw [iteF hc65] at hF46
 simp only [zk,q1o,qe,qd,f62,qs,qb,Nat.reduceAdd,Nat.zero_add,Nat.add_zero,qr,qp,B0,reduceIte,reduceEqDiff]
 refine qj (v:=lst Replica.cells v_0.Replicas) rfl ?_
 simp only [jb,qb,jl,qc,qa,B0,reduceIte,reduceEqDiff]
 obtain ⟨oc68,hX70,hk71⟩:=kq hF46
 simp only [qwm]
 refine xl (σ:=Unit) v_0.Replicas (fun i66 x67 _=>qax k v_0 i66 x67 ) (fun s fr' h'=>fr' 1 = .ref [.int .i64 v_0.Epoch,.int .i64 v_0.Leader,
   lst cI v_0.InStep,.int .i64 v_0.High,lst Replica.cells v_0.Replicas] 0∧fr' 47=lst Replica.cells v_0.Replicas∧Sep h' (geL h.length) ([])) hX70 ⟨f62,rfl,
   hS64⟩ (by simp only [B0,reduceIte,reduceEqDiff]) (by simp only [B0,reduceIte,
   reduceEqDiff]) (fun _ _ _ h=>h) rfl rfl (fun _ _ _ _ h=>h) (fun _ _ _ _ h=>h) (fun _ _ _ _ h=>h) (by decide) ?_ ?_
 ·rintro i66 x67 _ fr80 h81 hx85 ⟨f83,f84,hS82⟩ f86 f87 oc69 hF72 hr73 Q74 hN75 hB79 hK76 hR77 hE78
  unfold qax at hF72
  simp only [qwo,qe,qd,f86,qc,f84,j0,B0,reduceIte,reduceEqDiff]
  refine qj (v := .ref (Replica.cells x67) 0) (xw hx85 rfl) ?_
  simp only [qp,B0,reduceIte,reduceEqDiff]
  refine qj (v := .agg [lst Row.cells x67.Log,.int .i64 x67.Epoch,.int .i64 x67.Known]) rfl ?_
  simp only [je,B0,reduceIte,reduceEqDiff]
  refine zt hS82 (fun b88 h89 hS90=>?_)
  simp only [qc,zg,B0,reduceIte,reduceEqDiff]
  refine qy (us:=[lst Row.cells x67.Log,.int .i64 x67.Epoch,.int .i64 x67.Known]) rfl (cs':=[lst Row.cells x67.Log,.int .i64 x67.Epoch,
    .int .i64 x67.Known]) hS90 hW rfl rfl (Nat.le_of_ble_eq_true rfl) rfl (fun h92 hS93=>?_)
  simp only [qa,B0,reduceIte,reduceEqDiff]
  refine zz hS93 hW (by simp only [B0,reduceIte,reduceEqDiff]) (fun h94 hS95=>?_)
  simp only [zw,q0v,qe,jh,zq,qg,Nat.reduceAdd,Nat.zero_add,Nat.add_zero,qr,zm,B0,reduceIte,reduceEqDiff]
  refine qq (v:=lst Row.cells x67.Log) rfl ?_
  simp only [f83,zq,qg,Nat.reduceAdd,Nat.zero_add,Nat.add_zero,qr,zm,B0,reduceIte,reduceEqDiff]
  refine qq (v := .int .i64 v_0.Epoch) rfl ?_
  obtain ⟨v96,hx97,hF98⟩:=qi hF72
  simp only [k8,B0,reduceIte,reduceEqDiff]
  refine qbm rfl (qh zo (qh qm qz)) (qlv (fun b hb=>decide_eq_true hb) x67.Log v_0.Epoch v96 hx97) ?_
  simp only [qer,qg,kx,zp,B0,reduceIte,reduceEqDiff]
  simp only [qn (g:=60),B0,reduceIte,reduceEqDiff]
  refine jg (t:=(!v96)) (fun hg99=>?_) (fun hg99=>?_)
  ·rw [iteT hg99] at hF98
   simp only [hg99,qn (g:=60),wt,z8,qg,zh,zp,qn (g:=68),qn (g:=77),qn (g:=83),qd3,
     qu,zb,qco,qe,qd,qc,qa,q8,B0,reduceIte,reduceEqDiff]
   have e100:=ql hF98
   subst e100
   have ho101:=hr73 _ rfl
   have hk102:=hk71
   rw [ho101] at hk102
   dsimp only [jnO] at hk102
   apply hR77
   have he:=ql hk102
   subst he
   simp only [zj,B0,reduceIte,reduceEqDiff]
   exact rfl
  rw [iteF hg99] at hF98
  simp only [hg99,qn (g:=60),zr,zq,qg,Nat.reduceAdd,Nat.zero_add,Nat.add_zero,qr,zm,B0,reduceIte,reduceEqDiff]
  refine qq (v := .int .i64 x67.Epoch) rfl ?_
  simp only [hg99,qn (g:=60),zr,f83,zq,qg,Nat.reduceAdd,Nat.zero_add,Nat.add_zero,qr,zm,B0,reduceIte,reduceEqDiff]
  refine qq (v := .int .i64 v_0.Epoch) rfl ?_
  simp only [hg99,qn (g:=60),zr,k8,B0,reduceIte,reduceEqDiff]
  refine qbm rfl (qh qm (qh qm (qh qm qz))) (w8 (fun b hb=>decide_eq_true hb) x67.Epoch 0 v_0.Epoch _ rfl) ?_
  simp only [hg99,qn (g:=60),zr,qer,qg,kx,z8,zi,zp,B0,reduceIte,reduceEqDiff]
  simp only [qn (g:=68),B0,reduceIte,reduceEqDiff]
  refine jg (t:=(!(z7 x67.Epoch 0 v_0.Epoch))) (fun hg103=>?_) (fun hg103=>?_)
  ·rw [iteT hg103] at hF98
   simp only [hg103,qn (g:=68),wt,z8,qg,zh,zp,qn (g:=77),qn (g:=83),qd3,qu,zb,
     qco,qe,qd,qc,qa,q8,B0,reduceIte,reduceEqDiff]
   have e104:=ql hF98
   subst e104
   have ho105:=hr73 _ rfl
   have hk106:=hk71
   rw [ho105] at hk106
   dsimp only [jnO] at hk106
   apply hR77
   have he:=ql hk106
   subst he
   simp only [zj,B0,reduceIte,reduceEqDiff]
   exact rfl
  rw [iteF hg103] at hF98
  simp only [hg103,qn (g:=68),zr,zq,qg,Nat.reduceAdd,Nat.zero_add,Nat.add_zero,qr,zm,B0,reduceIte,reduceEqDiff]
  refine qq (v := .int .i64 x67.Known) rfl ?_
  simp only [hg103,qn (g:=68),zr,zq,qg,Nat.reduceAdd,Nat.zero_add,Nat.add_zero,qr,zm,B0,reduceIte,reduceEqDiff]
  refine qq (v:=lst Row.cells x67.Log) rfl ?_
  simp only [hg103,qn (g:=68),zr,qd2,qg,jl,k8,B0,reduceIte,reduceEqDiff]
  refine qbm rfl (qh qm (qh qm (qh qm qz))) (w8 (fun b hb=>decide_eq_true hb) x67.Known 0 (List.length x67.Log:Int) _ rfl) ?_
  simp only [hg103,qn (g:=68),zr,qer,qg,kx,z8,zi,zp,B0,reduceIte,reduceEqDiff]
  simp only [qn (g:=77),B0,reduceIte,reduceEqDiff]
  refine jg (t:=(!(z7 x67.Known 0 (List.length x67.Log:Int)))) (fun hg107=>?_) (fun hg107=>?_)
  ·rw [iteT hg107] at hF98
   simp only [hg107,qn (g:=77),wt,qn (g:=83),qd3,z8,qg,zh,qu,zb,qco,qe,qd,
     qc,qa,q8,B0,reduceIte,reduceEqDiff]
   have e108:=ql hF98
   subst e108
   have ho109:=hr73 _ rfl
   have hk110:=hk71
   rw [ho109] at hk110
   dsimp only [jnO] at hk110
   apply hR77
   have he:=ql hk110
   subst he
   simp only [zj,B0,reduceIte,reduceEqDiff]
   exact rfl
  rw [iteF hg107] at hF98
  simp only [hg107,qn (g:=77),zr,zq,qg,Nat.reduceAdd,Nat.zero_add,Nat.add_zero,qr,zm,B0,reduceIte,reduceEqDiff]
  refine qq (v := .int .i64 x67.Epoch) rfl ?_
  simp only [hg107,qn (g:=77),zr,f83,zq,qg,Nat.reduceAdd,Nat.zero_add,Nat.add_zero,qr,zm,B0,reduceIte,reduceEqDiff]
  refine qq (v := .int .i64 v_0.Epoch) rfl ?_
  simp only [hg107,qn (g:=77),zr,kh,qg,yd,zp,B0,reduceIte,reduceEqDiff]
  simp only [qn (g:=83),B0,reduceIte,reduceEqDiff]
  refine jg (t:=(decide (x67.Epoch=v_0.Epoch))) (fun hg111=>?_) (fun hg111=>?_)
  ·rw [iteT hg111] at hF98
   simp only [hg111,qn (g:=83),zc,uu,qg,Nat.reduceAdd,Nat.zero_add,Nat.add_zero,qr,wv,yz,B0,reduceIte,reduceEqDiff]
   refine qq (v := .int .i64 x67.Known) rfl ?_
   simp only [hg111,qn (g:=83),zc,f83,zm,B0,reduceIte,reduceEqDiff]
   refine qq (v := .agg [.int .i64 v_0.Epoch,.int .i64 v_0.Leader,lst cI v_0.InStep,.int .i64 v_0.High,lst Replica.cells v_0.Replicas]) rfl ?_
   obtain ⟨v112,hx113,hF114⟩:=qi hF98
   simp only [hg111,qn (g:=83),zc,zp,qg,yy,B0,reduceIte,reduceEqDiff]
   refine qd6 rfl (qh (jd (qh qm (qh qm (qh zo (qh qm (qh zo qz)))))) (qh qm qz)) (x8
     (fun b hb=>decide_eq_true hb) k v_0 (i66:Int) v112 hx113) ?_
   simp only [hg111,qn (g:=83),zc,kh,qg,qcv,hg107,qn (g:=77),zr,z8,zh,zi,qu,zb,
     B0,reduceIte,reduceEqDiff]
   refine zd (t:=(decide (v112<x67.Known))) (fun hc115=>?_) (fun hc115=>?_)
   ·rw [iteT hc115] at hF114
    simp only [qe,qd,qc,qa,q8,B0,reduceIte,reduceEqDiff]
    have e116:=ql hF114
    subst e116
    have ho117:=hr73 _ rfl
    have hk118:=hk71
    rw [ho117] at hk118
    dsimp only [jnO] at hk118
    apply hR77
    have he:=ql hk118
    subst he
    simp only [zj,B0,reduceIte,reduceEqDiff]
    exact rfl
   rw [iteF hc115] at hF114
   simp only [zk,qps,qe,jh,f83,zq,qg,Nat.reduceAdd,Nat.zero_add,Nat.add_zero,qr,zm,B0,reduceIte,reduceEqDiff]
   refine qq (v:=lst cI v_0.InStep) rfl ?_
   obtain ⟨v119,hx120,hF121⟩:=qi hF114
   simp only [zp,qg,k8,B0,reduceIte,reduceEqDiff]
   refine qbm rfl (qh zo (qh qm qz)) (qbk (fun b hb=>decide_eq_true hb) v_0.InStep (i66:Int) v119 hx120) ?_
   simp only [zp,qg,B0,reduceIte,reduceEqDiff]
   simp only [qn (g:=96),B0,reduceIte,reduceEqDiff]
   refine jg (t:=v119) (fun hg122=>?_) (fun hg122=>?_)
   ·rw [iteT hg122] at hF121
    simp only [hg122,qn (g:=96),zc,f83,uu,qg,Nat.reduceAdd,Nat.zero_add,Nat.add_zero,qr,wv,yz,B0,reduceIte,
      reduceEqDiff]
    refine qq (v := .int .i64 v_0.High) rfl ?_
    simp only [hg122,qn (g:=96),zc,f83,zm,B0,reduceIte,reduceEqDiff]
    refine qq (v := .agg [.int .i64 v_0.Epoch,.int .i64 v_0.Leader,lst cI v_0.InStep,.int .i64 v_0.High,lst Replica.cells v_0.Replicas]) rfl ?_
    obtain ⟨v123,hx124,hF125⟩:=qi hF121
    simp only [hg122,qn (g:=96),zc,zp,qg,yy,B0,reduceIte,reduceEqDiff]
    refine qd6 rfl (qh (jd (qh qm (qh qm (qh zo (qh qm (qh zo qz)))))) (qh qm qz))
      (x8 (fun b hb=>decide_eq_true hb) k v_0 (i66:Int) v123 hx124) ?_
    simp only [hg122,qn (g:=96),zc,kh,qg,qcv,z8,zh,qu,zb,B0,reduceIte,reduceEqDiff]
    refine zd (t:=(decide (v123<v_0.High))) (fun hc126=>?_) (fun hc126=>?_)
    ·rw [iteT hc126] at hF125
     simp only [qe,qd,qc,qa,q8,B0,reduceIte,reduceEqDiff]
     have e127:=ql hF125
     subst e127
     have ho128:=hr73 _ rfl
     have hk129:=hk71
     rw [ho128] at hk129
     dsimp only [jnO] at hk129
     apply hR77
     have he:=ql hk129
     subst he
     simp only [zj,B0,reduceIte,reduceEqDiff]
     exact rfl
    rw [iteF hc126] at hF125
    simp only [zk,qo,B0,reduceIte,reduceEqDiff]
    have e130:=ql hF125
    exact hN75 _ _ _ e130.symm ⟨f83,f84,hS95⟩ (f86) (f87)
   rw [iteF hg122] at hF121
   simp only [hg122,qn (g:=96),ky,z8,qg,zi,qu,zb,qa4,zk,qo,B0,reduceIte,reduceEqDiff]
   have e131:=ql hF121
   exact hN75 _ _ _ e131.symm ⟨f83,f84,hS95⟩ (f86) (f87)
  rw [iteF hg111] at hF98
  simp only [hg111,qn (g:=83),ky,hg107,qn (g:=77),zr,z8,qg,zi,qu,zb,qa4,zk,
    qps,qe,jh,f83,zq,Nat.reduceAdd,Nat.zero_add,Nat.add_zero,qr,zm,B0,reduceIte,reduceEqDiff]
  refine qq (v:=lst cI v_0.InStep) rfl ?_
  obtain ⟨v132,hx133,hF134⟩:=qi hF98
  simp only [zp,qg,k8,B0,reduceIte,reduceEqDiff]
  refine qbm rfl (qh zo (qh qm qz)) (qbk (fun b hb=>decide_eq_true hb) v_0.InStep (i66:Int) v132 hx133) ?_
  simp only [zp,qg,B0,reduceIte,reduceEqDiff]
  simp only [qn (g:=96),B0,reduceIte,reduceEqDiff]
  refine jg (t:=v132) (fun hg135=>?_) (fun hg135=>?_)
  ·rw [iteT hg135] at hF134
   simp only [hg135,qn (g:=96),zc,f83,uu,qg,Nat.reduceAdd,Nat.zero_add,Nat.add_zero,qr,wv,yz,B0,reduceIte,reduceEqDiff]
   refine qq (v := .int .i64 v_0.High) rfl ?_
   simp only [hg135,qn (g:=96),zc,f83,zm,B0,reduceIte,reduceEqDiff]
   refine qq (v := .agg [.int .i64 v_0.Epoch,.int .i64 v_0.Leader,lst cI v_0.InStep,.int .i64 v_0.High,lst Replica.cells v_0.Replicas]) rfl ?_
   obtain ⟨v136,hx137,hF138⟩:=qi hF134
   simp only [hg135,qn (g:=96),zc,zp,qg,yy,B0,reduceIte,reduceEqDiff]
   refine qd6 rfl (qh (jd (qh qm (qh qm (qh zo (qh qm (qh zo qz)))))) (qh qm qz)) (x8
     (fun b hb=>decide_eq_true hb) k v_0 (i66:Int) v136 hx137) ?_
   simp only [hg135,qn (g:=96),zc,kh,qg,qcv,z8,zh,qu,zb,B0,reduceIte,reduceEqDiff]
   refine zd (t:=(decide (v136<v_0.High))) (fun hc139=>?_) (fun hc139=>?_)
   ·rw [iteT hc139] at hF138
    simp only [qe,qd,qc,qa,q8,B0,reduceIte,reduceEqDiff]
    have e140:=ql hF138
    subst e140
    have ho141:=hr73 _ rfl
    have hk142:=hk71
    rw [ho141] at hk142
    dsimp only [jnO] at hk142
    apply hR77
    have he:=ql hk142
    subst he
    simp only [zj,B0,reduceIte,reduceEqDiff]
    exact rfl
   rw [iteF hc139] at hF138
   simp only [zk,qo,B0,reduceIte,reduceEqDiff]
   have e143:=ql hF138
   exact hN75 _ _ _ e143.symm ⟨f83,f84,hS95⟩ (f86) (f87)
  rw [iteF hg135] at hF134
  simp only [hg135,qn (g:=96),ky,z8,qg,zi,qu,zb,qa4,zk,qo,B0,reduceIte,reduceEqDiff]
  have e144:=ql hF134
  exact hN75 _ _ _ e144.symm ⟨f83,f84,hS95⟩ (f86) (f87)
 rintro _ fr146 h147 rfl ⟨f149,f150,hS148⟩
 dsimp only [jnO] at hk71
 unfold qgf at hk71
 simp only [qe,qd,qc,qa,q8,B0,reduceIte,reduceEqDiff]
 have he:=ql hk71
 subst he
 simp only [zj,B0,reduceIte,reduceEqDiff]
 exact rfl
theorem qf5 {W:Nat→Bool}{h:Heap} (hW:∀ b,
  (geL h.length) b→W b=true) (g_0:Group) (r:Group) (hF:qac g_0=some r) : Ret E W 53 [.agg [.int .i64 g_0.Epoch,.int .i64 g_0.Leader,lst cI g_0.InStep,
  .int .i64 g_0.High,lst Replica.cells g_0.Replicas]] h (fun v h'=>∃ rv0_2 rc0_2 rv0_4 rc0_4,v = .agg [.int .i64 r.Epoch,.int .i64 r.Leader,rv0_2,.int .i64 r.High,
  rv0_4]∧SlF cI 1 3 rv0_2 r.InStep rc0_2∧SlN Replica.R 3 51 rv0_4 r.Replicas rc0_4∧Sep h' (geL h.length) (rc0_2++(rc0_4++([])))):=by
 refine Ret.of (fn:=x53) rfl (Run.of ?_)
 unfold qac at hF
 have zf0:ze [.agg [.int .i64 g_0.Epoch,.int .i64 g_0.Leader,lst cI g_0.InStep,.int .i64 g_0.High,lst Replica.cells g_0.Replicas]] 0 = .agg [.int .i64 g_0.Epoch,
   .int .i64 g_0.Leader,lst cI g_0.InStep,.int .i64 g_0.High,lst Replica.cells g_0.Replicas]:=rfl
 generalize ze [.agg [.int .i64 g_0.Epoch,.int .i64 g_0.Leader,lst cI g_0.InStep,.int .i64 g_0.High,lst Replica.cells g_0.Replicas]]=fr0 at zf0 ⊢
 have hS:Sep h (geL h.length) []:=Sep.nil h
 simp only [x53,qe,qd,kp,zf0,B0,reduceIte,reduceEqDiff]
 refine jz (cs:=[.int .i64 g_0.Epoch,.int .i64 g_0.Leader,lst cI g_0.InStep,.int .i64 g_0.High,lst Replica.cells g_0.Replicas]) hS rfl rfl rfl (fun b1 h2 hS3=>?_)
 simp only [je,B0,reduceIte,reduceEqDiff]
 refine zt hS3 (fun b5 h6 hS7=>?_)
 simp only [qa,B0,reduceIte,reduceEqDiff]
 refine zz (Sep.m1 hS7) hW (by simp only [B0,reduceIte,reduceEqDiff]) (fun h9 hS10=>?_)
 simp only [zw,q2s,qe,jh,qcw,evp,B0,reduceIte,reduceEqDiff]
 refine ux (n:=1) (f:=cI) ([] : List Int) hS10 rfl rfl (fun v11 c12 h13 hv14 hS15=>?_)
 simp only [qkb,B0,reduceIte,reduceEqDiff]
 refine qd1 hS15 (fun b17 h18 hS19=>?_)
 simp only [uu,qg,Nat.reduceAdd,Nat.zero_add,Nat.add_zero,qr,wv,yz,B0,reduceIte,reduceEqDiff]
 refine qq (v := .int .i64 g_0.Epoch) rfl ?_
 simp only [uu,qg,Nat.reduceAdd,Nat.zero_add,Nat.add_zero,qr,wv,yz,B0,reduceIte,reduceEqDiff]
 refine qq (v := .int .i64 g_0.Leader) rfl ?_
 simp only [zq,qg,Nat.reduceAdd,Nat.zero_add,Nat.add_zero,qr,zm,B0,reduceIte,reduceEqDiff]
 refine qq (v:=lst cI g_0.InStep) rfl ?_
 simp only [qom,B0,reduceIte,reduceEqDiff]
 obtain ⟨l21,hx22,hF23⟩:=qi hF
 have hq24:=nwq (fun z hz=>Sep.dj (Sep.m2 (Sep.m2 hS19)) qou (SlF.rowfp hv14 z hz))
 refine qwi qqs ?_
 refine qbt (f:=cI) hv14 (Sep.m1 hS19) hW (fun _=>rfl) (fun _=>rfl) (qb9 (fun _=>rfl)) hx22 (fun v25 c26 h27 hv28 hS29=>?_)
 simp only [uu,qg,Nat.reduceAdd,Nat.zero_add,Nat.add_zero,qr,wv,yz,B0,reduceIte,reduceEqDiff]
 refine qq (v := .int .i64 g_0.High) rfl ?_
 simp only [qi9,evp,B0,reduceIte,reduceEqDiff]
 refine qq (v := .agg [.int .i64 g_0.Epoch,.int .i64 g_0.Leader,v25,.int .i64 g_0.High,
   .nil]) (qev (qdi (us:=[.int .i64 g_0.Epoch]) (vs:=[.int .i64 g_0.Epoch,.int .i64 0,.nil,.int .i64 0,
   .nil]) rfl rfl (Nat.le_of_ble_eq_true rfl) rfl rfl (qdi (us:=[.int .i64 g_0.Leader]) (vs:=[.int .i64 g_0.Epoch,.int .i64 g_0.Leader,.nil,.int .i64 0,
   .nil]) rfl rfl (Nat.le_of_ble_eq_true rfl) rfl rfl (qdi (us:=[v25]) (vs:=[.int .i64 g_0.Epoch,.int .i64 g_0.Leader,v25,.int .i64 0,
   .nil]) (k5 (SlF.one hv28)) rfl (Nat.le_of_ble_eq_true rfl) (qk (SlF.one hv28) zn) rfl (qdi (us:=[.int .i64 g_0.High]) (vs:=[.int .i64 g_0.Epoch,
   .int .i64 g_0.Leader,v25,.int .i64 g_0.High,.nil]) rfl rfl (Nat.le_of_ble_eq_true rfl) rfl rfl qio))))) ?_
 simp only [qdj,B0,reduceIte,reduceEqDiff]
 refine xk (us:=[.int .i64 g_0.Epoch,.int .i64 g_0.Leader,v25,.int .i64 g_0.High,.nil]) rfl (cs':=[.int .i64 g_0.Epoch,.int .i64 g_0.Leader,v25,
   .int .i64 g_0.High,.nil]) (Sep.m1 hS29) hW rfl (qk rfl (qk rfl (qk (SlF.one hv28) (qk rfl (qk rfl zn))))) (Nat.le_of_ble_eq_true rfl) rfl
   (fun h31 hS32=>?_)
 simp only [qu,q1z,qe,qd,qs,qb,Nat.reduceAdd,Nat.zero_add,Nat.add_zero,qr,qp,B0,reduceIte,reduceEqDiff]
 refine qj (v:=lst Replica.cells g_0.Replicas) rfl ?_
 simp only [jb,qb,jl,qc,qa,B0,reduceIte,reduceEqDiff]
 obtain ⟨oc45,hX47,hk48⟩:=kq hF23
 simp only [qw3]
 refine xl (σ:=Group) g_0.Replicas (fun i43 x44 s107=>qbh l21 i43 x44 s107) (fun s fr' h'=>∃ v40 c41,
   fr' 2 = .ptr b5 0∧fr' 3 = .ptr b17 0∧fr' 18=lst Replica.cells g_0.Replicas∧SlN Replica.R 3 51 v40 s.Replicas c41∧Sep h' (geL h.length) ([Blk1 b5 [.int .i64 0,
   .int .i64 0,.nil,.int .i64 0,.nil] 29]++([Blk1 b17 [.int .i64 s.Epoch,.int .i64 s.Leader,v25,.int .i64 s.High,v40] 29]++(c26++(c41++([])))))) hX47 ⟨.nil,[],
   rfl,rfl,rfl,SlN.nil,((Sep.m2 (Sep.m1 (Sep.m1 hS32))) : Sep _ (geL h.length) ([Blk1 b5 [.int .i64 0,.int .i64 0,.nil,.int .i64 0,
   .nil] 29]++([Blk1 b17 [.int .i64 g_0.Epoch,.int .i64 g_0.Leader,v25,.int .i64 g_0.High,.nil] 29]++(c26++([])))))⟩ (by simp only [B0,reduceIte,
   reduceEqDiff]) (by simp only [B0,reduceIte,reduceEqDiff]) (fun _ _ _ h=>h) rfl rfl (fun _ _ _ _ h=>h) (fun _ _ _ _ h=>h) (fun _ _ _ _ h=>h) (by decide) ?_ ?_
 ·rintro i43 x44 s38 fr57 h58 hx63 ⟨v40,c41,f60,f61,f62,hv42,hS59⟩ f64 f65 oc46 hF49 hr50 Q51 hN52 hB56 hK53 hR54 hE55
  unfold qbh at hF49
  simp only [q2v,qe,qd,f62,f64,j0,B0,reduceIte,reduceEqDiff]
  refine qj (v := .ref (Replica.cells x44) 0) (xw hx63 rfl) ?_
  simp only [qp,B0,reduceIte,reduceEqDiff]
  refine qj (v := .agg [lst Row.cells x44.Log,.int .i64 x44.Epoch,.int .i64 x44.Known]) rfl ?_
  simp only [je,B0,reduceIte,reduceEqDiff]
  refine zt hS59 (fun b66 h67 hS68=>?_)
  simp only [zg,B0,reduceIte,reduceEqDiff]
  refine qy (us:=[lst Row.cells x44.Log,.int .i64 x44.Epoch,.int .i64 x44.Known]) rfl (cs':=[lst Row.cells x44.Log,.int .i64 x44.Epoch,
    .int .i64 x44.Known]) hS68 hW rfl rfl (Nat.le_of_ble_eq_true rfl) rfl (fun h70 hS71=>?_)
  simp only [qa,q1a,qe,qd,yu,evp,B0,reduceIte,reduceEqDiff]
  refine ye (n:=2) (f:=Row.cells) ([] : List Row) hS71 rfl rfl (fun v72 c73 h74 hv75 hS76=>?_)
  simp only [qs,qb,Nat.reduceAdd,Nat.zero_add,Nat.add_zero,qw,qp,B0,reduceIte,reduceEqDiff]
  refine qj (v:=lst Row.cells x44.Log) ((zu (Sep.bk _ _ _ (Sep.m1 hS76))).trans rfl) ?_
  simp only [uc,B0,reduceIte,reduceEqDiff]
  obtain ⟨l78,hx79,hF80⟩:=qi hF49
  refine wq (f:=Row.cells) hv75 hS76 hW (fun _=>rfl) (fun _=>rfl) (qb9 (fun _=>rfl)) hx79 (fun v81 c82 h83 hv84 hS85=>?_)
  simp only [qs,qb,Nat.reduceAdd,Nat.zero_add,Nat.add_zero,qw,zg,B0,reduceIte,reduceEqDiff]
  refine qy (us:=[v81]) (k5 (SlF.one hv84)) (cs':=[v81,.int .i64 x44.Epoch,
    .int .i64 x44.Known]) (Sep.m1 hS85) hW rfl (qk (SlF.one hv84) zn) (Nat.le_of_ble_eq_true rfl) rfl (fun h87 hS88=>?_)
  simp only [qa,qy0,qd,f61,qs,qb,Nat.reduceAdd,Nat.zero_add,Nat.add_zero,qw,qp,B0,reduceIte,reduceEqDiff]
  refine qj (v:=v40) ((zu (Sep.bk _ _ _ (Sep.m3 hS88))).trans rfl) ?_
  simp only [qp,B0,reduceIte,reduceEqDiff]
  refine qj (v := .agg [v81,.int .i64 x44.Epoch,.int .i64 x44.Known]) ((zv (Sep.bk _ _ _ hS88)).trans rfl) ?_
  simp only [yu,evp,B0,reduceIte,reduceEqDiff]
  refine qib (R:=Replica.R) (n:=3) (cs:=[v81,.int .i64 x44.Epoch,.int .i64 x44.Known]) (os:=c82) (Sep.m1 hS88) (qdi (us:=[v81,.int .i64 x44.Epoch,
    .int .i64 x44.Known]) (vs:=[v81,.int .i64 x44.Epoch,
    .int .i64 x44.Known]) rfl rfl (Nat.le_of_ble_eq_true rfl) (qk (SlF.one hv84) (qk rfl (qk rfl zn))) rfl qio) (Replica.RI (x :=
    (Replica.mk l78 x44.Epoch x44.Known)) hv84) rfl (fun v89 c90 h91 hv92 hS93=>?_)
  simp only [uc,B0,reduceIte,reduceEqDiff]
  obtain ⟨l95,hx96,hF97⟩:=qi hF80
  refine qlg (R:=Replica.R) (c:=c41) hv42 hv92 (Sep.m5 hS93) hW Replica.RO.len Replica.RO.one hx96 (fun v98 c99 h100 hv101 hS102=>?_)
  simp only [f61,qs,qb,Nat.reduceAdd,Nat.zero_add,Nat.add_zero,qw,zg,B0,reduceIte,reduceEqDiff]
  refine qy (us:=[v98]) (k5 (SlN.one hv101)) (cs':=[.int .i64 s38.Epoch,.int .i64 s38.Leader,v25,.int .i64 s38.High,
    v98]) (Sep.m3 hS102) hW rfl (qk (SlN.one hv101) zn) (Nat.le_of_ble_eq_true rfl) rfl (fun h104 hS105=>?_)
  simp only [qa,qo,B0,reduceIte,reduceEqDiff]
  have e106:=ql hF97
  exact hN52 _ _ _ e106.symm ⟨v98,c99,f60,f61,f62,hv101,(Sep.m3 (Sep.m2 (Sep.m3 (Sep.m1 (Sep.dc (Sep.m2 hS105))))))⟩ (f64) (f65)
 rintro s108 fr113 h114 rfl ⟨v110,c111,f116,f117,f118,hv112,hS115⟩
 dsimp only [jnO] at hk48
 unfold qfe at hk48
 simp only [qe,qd,f117,qp,B0,reduceIte,reduceEqDiff]
 refine qj (v := .agg [.int .i64 s108.Epoch,.int .i64 s108.Leader,v25,.int .i64 s108.High,v110]) ((zv (Sep.bk _ _ _ (Sep.m1 hS115))).trans rfl) ?_
 simp only [f116,zg,B0,reduceIte,reduceEqDiff]
 refine qy (us:=[.int .i64 s108.Epoch,.int .i64 s108.Leader,v25,.int .i64 s108.High,v110]) rfl (cs':=[.int .i64 s108.Epoch,.int .i64 s108.Leader,v25,
   .int .i64 s108.High,v110]) hS115 hW rfl (qk rfl (qk rfl (qk (SlF.one hv28) (qk rfl (qk (SlN.one hv112) zn))))) (Nat.le_of_ble_eq_true rfl) rfl
   (fun h119 hS120=>?_)
 simp only [qa,q8,B0,reduceIte,reduceEqDiff]
 have he:=ql hk48
 subst he
 refine we (bb:=b5) (oo:=0) (v := .agg [.int .i64 s108.Epoch,.int .i64 s108.Leader,v25,.int .i64 s108.High,v110]) (by simp only [f116,B0,reduceIte,
   reduceEqDiff]) ((zv (Sep.bk _ _ _ hS120)).trans rfl) ?_
 exact ⟨v25,c26,v110,c111,by first | trivial | rfl,hv28,hv112,(Sep.m1 (Sep.m1 (Sep.dc ((Sep.dc (hS120))))))⟩
end Go.Proofs.Ytefgfcalgjmhjaa.X
