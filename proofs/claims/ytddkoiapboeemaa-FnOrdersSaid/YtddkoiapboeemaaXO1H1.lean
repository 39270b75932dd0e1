/- The functions' code comes to what the plain functions say (1). -/
import Derived.Test.YtddkoiapboeemaaXO1F
import Derived.Test.YtddkoiapboeemaaXO1D
set_option linter.unusedVariables false
set_option linter.unusedSimpArgs false
set_option maxRecDepth 100000
namespace Go.Proofs.Ytddkoiapboeemaa.X
open Go
open Nat (reduceEqDiff)
theorem qfo {W:Nat→Bool}{h:Heap}{lo:Nat→Prop}{S0:List Obj} (hW:∀ b,
  lo b→W b=true) (pv0:XV) (pc0:List Obj) (s_0:List Int) (ph0:SlF cI 1 3 pv0 s_0 pc0) (r:List Int) (hF:slices_Sort_int s_0=some r) (hS:Sep h lo
  (pc0++S0)) : Ret E W 70 [pv0] h (fun v h'=>∃ ic0,v = .tup []∧SlF cI 1 3 pv0 r ic0∧Sep h' lo (ic0++S0)):=qyr rfl rfl hW ph0 hF hS
theorem uq {W:Nat→Bool}{h:Heap} (hW:∀ b,
  (geL h.length) b→W b=true) (n_0:Int) (lo_1:Int) (hi_2:Int) (r:Bool) (hF:some (qu n_0 lo_1 hi_2)=some r) : Ret E W 41 [.int .i64 n_0,.int .i64 lo_1,
  .int .i64 hi_2] h (fun v h'=>cut h.length h' E.sz false 9 v=some (.bool r)):=by
 refine Ret.of (fn:=x41) rfl (Run.of ?_)
 unfold qu at hF
 have zf0:qq [.int .i64 n_0,.int .i64 lo_1,.int .i64 hi_2] 0 = .int .i64 n_0:=rfl
 have zf1:qq [.int .i64 n_0,.int .i64 lo_1,.int .i64 hi_2] 1 = .int .i64 lo_1:=rfl
 have zf2:qq [.int .i64 n_0,.int .i64 lo_1,.int .i64 hi_2] 2 = .int .i64 hi_2:=rfl
 generalize qq [.int .i64 n_0,.int .i64 lo_1,.int .i64 hi_2]=fr0 at zf0 zf1 zf2 ⊢
 have hS:Sep h (geL h.length) []:=Sep.nil h
 simp only [x41,qg,qe,qd,qa,qsj,zf0,zf1,qv,qc,qhm,B0,reduceIte,reduceEqDiff]
 refine zu 4 (fun fr' h'=>Sep h' (geL h.length) ([])∧fr' 14 = .bool ((decide (lo_1≤n_0))&&(decide (n_0≤hi_2)))) (fun Q1 hN2=>?_) ?_
 ·simp only [List.take_succ_cons,List.take_zero]
  simp only [qf (g:=10),B0,reduceIte,reduceEqDiff]
  refine qy (t:=(decide (lo_1≤n_0))) (fun hg3=>?_) (fun hg3=>?_)
  ·simp only [hg3,qf (g:=10),qz,zf0,qd,zf2,qv,qc,qgg,qn,zj,qa,qk,B0,reduceIte,reduceEqDiff]
   exact hN2 _ _ ⟨hS,by rw [uu hg3]; simp only [B0,reduceIte,reduceEqDiff]⟩
  ·simp only [hg3,qf (g:=10),zv,qn,qc,zi,qa,qk,B0,reduceIte,reduceEqDiff]
   exact hN2 _ _ ⟨hS,by rw [uv hg3]; simp only [B0,reduceIte,reduceEqDiff]⟩
 rintro fr4 h6 ⟨hS7,f5⟩
 simp only [List.drop_succ_cons,List.drop_zero]
 simp only [f5,qd,qa,qs,B0,reduceIte,reduceEqDiff]
 have he:=qh hF
 subst he
 simp only [q9,B0,reduceIte,reduceEqDiff]
 exact rfl
theorem qhl {W:Nat→Bool}{h:Heap} (hW:∀ b,
  (geL h.length) b→W b=true) (x_0:Call) (r:Bool) (hF:some (ko x_0)=some r) : Ret E W 64 [.agg [.int .i64 x_0.Client,.int .i64 x_0.Object,.bool x_0.Write,
  .int .i64 x_0.Value,.int .i64 x_0.Begin,.int .i64 x_0.End]] h (fun v h'=>cut h.length h' E.sz false 9 v=some (.bool r)):=by
 refine Ret.of (fn:=x64) rfl (Run.of ?_)
 unfold ko at hF
 have zf0:qq [.agg [.int .i64 x_0.Client,.int .i64 x_0.Object,.bool x_0.Write,.int .i64 x_0.Value,.int .i64 x_0.Begin,
   .int .i64 x_0.End]] 0 = .agg [.int .i64 x_0.Client,.int .i64 x_0.Object,.bool x_0.Write,.int .i64 x_0.Value,.int .i64 x_0.Begin,.int .i64 x_0.End]:=rfl
 generalize qq [.agg [.int .i64 x_0.Client,.int .i64 x_0.Object,.bool x_0.Write,.int .i64 x_0.Value,.int .i64 x_0.Begin,.int .i64 x_0.End]]=fr0 at zf0 ⊢
 have hS:Sep h (geL h.length) []:=Sep.nil h
 simp only [x64,qg,qe,x9,zf0,B0,reduceIte,reduceEqDiff]
 refine yq (cs:=[.int .i64 x_0.Client,.int .i64 x_0.Object,.bool x_0.Write,.int .i64 x_0.Value,.int .i64 x_0.Begin,
   .int .i64 x_0.End]) hS rfl rfl rfl (fun b1 h2 hS3=>?_)
 simp only [qd,qa,B0,reduceIte,reduceEqDiff]
 refine ji hS3 hW (by simp only [B0,reduceIte,reduceEqDiff]) (fun h5 hS6=>?_)
 simp only [ja,qsc,qg,qe,zb,qc,Nat.reduceAdd,Nat.zero_add,Nat.add_zero,zg,qr,B0,reduceIte,reduceEqDiff]
 refine qj (v := .int .i64 x_0.Client) rfl ?_
 simp only [qo,B0,reduceIte,reduceEqDiff]
 refine zp rfl (ql qp (ql qp (ql qp zf))) (uq (fun b hb=>decide_eq_true hb) x_0.Client 0 3 _ rfl) ?_
 simp only [qd,B0,reduceIte,reduceEqDiff]
 refine zu 4 (fun fr' h'=>Sep h' (geL h.length) ([])∧fr' 10 = .bool ((qu x_0.Client 0 3)&&(qu x_0.Object 0 2))∧fr' 1 = .ref [.int .i64 x_0.Client,
   .int .i64 x_0.Object,.bool x_0.Write,.int .i64 x_0.Value,.int .i64 x_0.Begin,.int .i64 x_0.End] 0) (fun Q7 hN8=>?_) ?_
 ·simp only [List.take_succ_cons,List.take_zero]
  simp only [qf (g:=6),B0,reduceIte,reduceEqDiff]
  refine qy (t:=(qu x_0.Client 0 3)) (fun hg9=>?_) (fun hg9=>?_)
  ·simp only [hg9,qf (g:=6),qz,zb,qc,Nat.reduceAdd,Nat.zero_add,Nat.add_zero,zg,qr,B0,reduceIte,reduceEqDiff]
   refine qj (v := .int .i64 x_0.Object) rfl ?_
   simp only [hg9,qf (g:=6),qz,qo,B0,reduceIte,reduceEqDiff]
   refine zp rfl (ql qp (ql qp (ql qp zf))) (uq (fun b hb=>decide_eq_true hb) x_0.Object 0 2 _ rfl) ?_
   simp only [hg9,qn,qc,zj,qa,qk,B0,reduceIte,reduceEqDiff]
   exact hN8 _ _ ⟨hS6,by rw [uu hg9]; simp only [B0,reduceIte,reduceEqDiff],rfl⟩
  ·simp only [hg9,qf (g:=6),zv,qn,qc,zi,qa,qk,B0,reduceIte,reduceEqDiff]
   exact hN8 _ _ ⟨hS6,by rw [uv hg9]; simp only [B0,reduceIte,reduceEqDiff],rfl⟩
 rintro fr10 h13 ⟨hS14,f11,f12⟩
 simp only [List.drop_succ_cons,List.drop_zero]
 simp only [f11,qd,B0,reduceIte,reduceEqDiff]
 refine zu 4 (fun fr' h'=>Sep h' (geL h.length) ([])∧fr' 15 = .bool (((qu x_0.Client 0 3)&&(qu x_0.Object 0 2)) &&
   (qu x_0.Value 0 9))∧fr' 1 = .ref [.int .i64 x_0.Client,.int .i64 x_0.Object,.bool x_0.Write,.int .i64 x_0.Value,.int .i64 x_0.Begin,
   .int .i64 x_0.End] 0) (fun Q15 hN16=>?_) ?_
 ·simp only [List.take_succ_cons,List.take_zero]
  simp only [qf (g:=11),B0,reduceIte,reduceEqDiff]
  refine qy (t:=((qu x_0.Client 0 3)&&(qu x_0.Object 0 2))) (fun hg17=>?_) (fun hg17=>?_)
  ·simp only [hg17,qf (g:=11),qz,f12,zb,qc,Nat.reduceAdd,Nat.zero_add,Nat.add_zero,zg,qr,B0,reduceIte,reduceEqDiff]
   refine qj (v := .int .i64 x_0.Value) rfl ?_
   simp only [hg17,qf (g:=11),qz,qo,B0,reduceIte,reduceEqDiff]
   refine zp rfl (ql qp (ql qp (ql qp zf))) (uq (fun b hb=>decide_eq_true hb) x_0.Value 0 9 _ rfl) ?_
   simp only [hg17,qn,qc,zj,qa,qk,B0,reduceIte,reduceEqDiff]
   exact hN16 _ _ ⟨hS14,by rw [uu hg17]; simp only [B0,reduceIte,reduceEqDiff],f12⟩
  ·simp only [hg17,qf (g:=11),zv,qn,qc,zi,qa,qk,B0,reduceIte,reduceEqDiff]
   exact hN16 _ _ ⟨hS14,by rw [uv hg17]; simp only [B0,reduceIte,reduceEqDiff],f12⟩
 rintro fr18 h21 ⟨hS22,f19,f20⟩
 simp only [List.drop_succ_cons,List.drop_zero]
 simp only [f19,qd,B0,reduceIte,reduceEqDiff]
 refine zu 9 (fun fr' h'=>Sep h' (geL h.length) ([])∧fr' 25 = .bool ((((qu x_0.Client 0 3)&&(qu x_0.Object 0 2))&&(qu x_0.Value 0 9)) &&
   ((!x_0.Write)||(decide ((0:Int)<x_0.Value))))∧fr' 1 = .ref [.int .i64 x_0.Client,.int .i64 x_0.Object,.bool x_0.Write,.int .i64 x_0.Value,.int .i64 x_0.Begin,
   .int .i64 x_0.End] 0) (fun Q23 hN24=>?_) ?_
 ·simp only [List.take_succ_cons,List.take_zero]
  simp only [qf (g:=16),B0,reduceIte,reduceEqDiff]
  refine qy (t:=(((qu x_0.Client 0 3)&&(qu x_0.Object 0 2))&&(qu x_0.Value 0 9))) (fun hg25=>?_) (fun hg25=>?_)
  ·simp only [hg25,qf (g:=16),qz,f20,zb,qc,Nat.reduceAdd,Nat.zero_add,Nat.add_zero,zg,qr,B0,reduceIte,reduceEqDiff]
   refine qj (v := .bool x_0.Write) rfl ?_
   simp only [hg25,qf (g:=16),qz,jc,qc,kt,qd,B0,reduceIte,reduceEqDiff]
   refine zu 4 (fun fr' h'=>Sep h' (geL h.length) ([])∧fr' 24 = .bool ((!x_0.Write)||(decide ((0:Int)<x_0.Value)))∧fr' 1 = .ref [.int .i64 x_0.Client,
     .int .i64 x_0.Object,.bool x_0.Write,.int .i64 x_0.Value,.int .i64 x_0.Begin,
     .int .i64 x_0.End] 0∧fr' 16 = .bool (((qu x_0.Client 0 3)&&(qu x_0.Object 0 2))&&(qu x_0.Value 0 9))) (fun Q26 hN27=>?_) ?_
   ·simp only [List.take_succ_cons,List.take_zero]
    simp only [qf (g:=20),B0,reduceIte,reduceEqDiff]
    refine qy (t:=(!x_0.Write)) (fun hg28=>?_) (fun hg28=>?_)
    ·simp only [hg28,qf (g:=20),z1,hg25,qf (g:=16),qz,qn,qc,zj,qa,qk,B0,reduceIte,reduceEqDiff]
     exact hN27 _ _ ⟨hS22,by rw [orT hg28]; simp only [B0,reduceIte,reduceEqDiff],f20,by simp only [hg25,B0,reduceIte,reduceEqDiff]⟩
    ·simp only [hg28,qf (g:=20),qw,f20,zb,qc,Nat.reduceAdd,Nat.zero_add,Nat.add_zero,zg,qr,B0,reduceIte,reduceEqDiff]
     refine qj (v := .int .i64 x_0.Value) rfl ?_
     simp only [hg28,qf (g:=20),qw,qv,qc,ut,hg25,qf (g:=16),qz,qn,zi,qa,qk,B0,
       reduceIte,reduceEqDiff]
     exact hN27 _ _ ⟨hS22,by rw [orF hg28]; simp only [B0,reduceIte,reduceEqDiff],f20,by simp only [hg25,B0,reduceIte,reduceEqDiff]⟩
   rintro fr29 h33 ⟨hS34,f30,f31,f32⟩
   simp only [List.drop_succ_cons,List.drop_zero]
   simp only [f32,hg25,qn,qc,zj,f30,qa,qk,B0,reduceIte,reduceEqDiff]
   exact hN24 _ _ ⟨hS34,by rw [uu hg25]; simp only [B0,reduceIte,reduceEqDiff],f31⟩
  ·simp only [hg25,qf (g:=16),zv,qf (g:=20),qe0,qn,qc,zi,qa,qk,B0,reduceIte,reduceEqDiff]
   exact hN24 _ _ ⟨hS22,by rw [uv hg25]; simp only [B0,reduceIte,reduceEqDiff],f20⟩
 rintro fr35 h38 ⟨hS39,f36,f37⟩
 simp only [List.drop_succ_cons,List.drop_zero]
 simp only [f36,qd,B0,reduceIte,reduceEqDiff]
 refine zu 4 (fun fr' h'=>Sep h' (geL h.length) ([])∧fr' 30 = .bool (((((qu x_0.Client 0 3)&&(qu x_0.Object 0 2))&&(qu x_0.Value 0 9)) &&
   ((!x_0.Write)||(decide ((0:Int)<x_0.Value))))&&(qu x_0.Begin 0 100))∧fr' 1 = .ref [.int .i64 x_0.Client,.int .i64 x_0.Object,.bool x_0.Write,
   .int .i64 x_0.Value,.int .i64 x_0.Begin,.int .i64 x_0.End] 0) (fun Q40 hN41=>?_) ?_
 ·simp only [List.take_succ_cons,List.take_zero]
  simp only [qf (g:=26),B0,reduceIte,reduceEqDiff]
  refine qy (t:=((((qu x_0.Client 0 3)&&(qu x_0.Object 0 2))&&(qu x_0.Value 0 9))&&((!x_0.Write)||(decide ((0:Int)<x_0.Value)))))
    (fun hg42=>?_) (fun hg42=>?_)
  ·simp only [hg42,qf (g:=26),qz,f37,zb,qc,Nat.reduceAdd,Nat.zero_add,Nat.add_zero,zg,qr,B0,reduceIte,reduceEqDiff]
   refine qj (v := .int .i64 x_0.Begin) rfl ?_
   simp only [hg42,qf (g:=26),qz,qo,B0,reduceIte,reduceEqDiff]
   refine zp rfl (ql qp (ql qp (ql qp zf))) (uq (fun b hb=>decide_eq_true hb) x_0.Begin 0 100 _ rfl) ?_
   simp only [hg42,qn,qc,zj,qa,qk,B0,reduceIte,reduceEqDiff]
   exact hN41 _ _ ⟨hS39,by rw [uu hg42]; simp only [B0,reduceIte,reduceEqDiff],f37⟩
  ·simp only [hg42,qf (g:=26),zv,qn,qc,zi,qa,qk,B0,reduceIte,reduceEqDiff]
   exact hN41 _ _ ⟨hS39,by rw [uv hg42]; simp only [B0,reduceIte,reduceEqDiff],f37⟩
 rintro fr43 h46 ⟨hS47,f44,f45⟩
 simp only [List.drop_succ_cons,List.drop_zero]
 simp only [f44,qd,B0,reduceIte,reduceEqDiff]
 refine zu 4 (fun fr' h'=>Sep h' (geL h.length) ([])∧fr' 35 = .bool ((((((qu x_0.Client 0 3)&&(qu x_0.Object 0 2))&&(qu x_0.Value 0 9)) &&
   ((!x_0.Write)||(decide ((0:Int)<x_0.Value))))&&(qu x_0.Begin 0 100))&&(qu x_0.End 0 100))∧fr' 1 = .ref [.int .i64 x_0.Client,.int .i64 x_0.Object,
   .bool x_0.Write,.int .i64 x_0.Value,.int .i64 x_0.Begin,.int .i64 x_0.End] 0) (fun Q48 hN49=>?_) ?_
 ·simp only [List.take_succ_cons,List.take_zero]
  simp only [qf (g:=31),B0,reduceIte,reduceEqDiff]
  refine qy (t:=(((((qu x_0.Client 0 3)&&(qu x_0.Object 0 2))&&(qu x_0.Value 0 9))&&((!x_0.Write)||(decide ((0:Int)<x_0.Value)))) &&
    (qu x_0.Begin 0 100))) (fun hg50=>?_) (fun hg50=>?_)
  ·simp only [hg50,qf (g:=31),qz,f45,zb,qc,Nat.reduceAdd,Nat.zero_add,Nat.add_zero,zg,qr,B0,reduceIte,reduceEqDiff]
   refine qj (v := .int .i64 x_0.End) rfl ?_
   simp only [hg50,qf (g:=31),qz,qo,B0,reduceIte,reduceEqDiff]
   refine zp rfl (ql qp (ql qp (ql qp zf))) (uq (fun b hb=>decide_eq_true hb) x_0.End 0 100 _ rfl) ?_
   simp only [hg50,qn,qc,zj,qa,qk,B0,reduceIte,reduceEqDiff]
   exact hN49 _ _ ⟨hS47,by rw [uu hg50]; simp only [B0,reduceIte,reduceEqDiff],f45⟩
  ·simp only [hg50,qf (g:=31),zv,qn,qc,zi,qa,qk,B0,reduceIte,reduceEqDiff]
   exact hN49 _ _ ⟨hS47,by rw [uv hg50]; simp only [B0,reduceIte,reduceEqDiff],f45⟩
 rintro fr51 h54 ⟨hS55,f52,f53⟩
 simp only [List.drop_succ_cons,List.drop_zero]
 simp only [f52,qd,B0,reduceIte,reduceEqDiff]
 refine zu 6 (fun fr' h'=>Sep h' (geL h.length) ([])∧fr' 42 = .bool (((((((qu x_0.Client 0 3)&&(qu x_0.Object 0 2))&&(qu x_0.Value 0 9)) &&
   ((!x_0.Write)||(decide ((0:Int)<x_0.Value))))&&(qu x_0.Begin 0 100))&&(qu x_0.End 0 100))&&(decide (x_0.Begin<x_0.End)))) (fun Q56 hN57=>?_) ?_
 ·simp only [List.take_succ_cons,List.take_zero]
  simp only [qf (g:=36),B0,reduceIte,reduceEqDiff]
  refine qy (t:=((((((qu x_0.Client 0 3)&&(qu x_0.Object 0 2))&&(qu x_0.Value 0 9))&&((!x_0.Write)||(decide
    ((0:Int)<x_0.Value))))&&(qu x_0.Begin 0 100))&&(qu x_0.End 0 100))) (fun hg58=>?_) (fun hg58=>?_)
  ·simp only [hg58,qf (g:=36),qz,f53,zb,qc,Nat.reduceAdd,Nat.zero_add,Nat.add_zero,zg,qr,B0,reduceIte,reduceEqDiff]
   refine qj (v := .int .i64 x_0.Begin) rfl ?_
   simp only [hg58,qf (g:=36),qz,f53,zb,qc,Nat.reduceAdd,Nat.zero_add,Nat.add_zero,zg,qr,B0,reduceIte,reduceEqDiff]
   refine qj (v := .int .i64 x_0.End) rfl ?_
   simp only [hg58,qf (g:=36),qz,qv,qc,qdn,qn,zj,qa,qk,B0,reduceIte,reduceEqDiff]
   exact hN57 _ _ ⟨hS55,by rw [uu hg58]; simp only [B0,reduceIte,reduceEqDiff]⟩
  ·simp only [hg58,qf (g:=36),zv,qn,qc,zi,qa,qk,B0,reduceIte,reduceEqDiff]
   exact hN57 _ _ ⟨hS55,by rw [uv hg58]; simp only [B0,reduceIte,reduceEqDiff]⟩
 rintro fr59 h61 ⟨hS62,f60⟩
 simp only [List.drop_succ_cons,List.drop_zero]
 simp only [f60,qd,qa,qs,B0,reduceIte,reduceEqDiff]
 have he:=qh hF
 subst he
 simp only [q9,B0,reduceIte,reduceEqDiff]
 exact rfl
theorem uh {W:Nat→Bool}{h:Heap} (hW:∀ b,
  (geL h.length) b→W b=true) (l_0:List Call) (r:Bool) (hF:jm l_0=some r) : Ret E W 40 [lst qb l_0] h
  (fun v h'=>cut h.length h' E.sz false 9 v=some (.bool r)):=by
 refine Ret.of (fn:=x40) rfl (Run.of ?_)
 unfold jm at hF
 have zf0:qq [lst qb l_0] 0=lst qb l_0:=rfl
 generalize qq [lst qb l_0]=fr0 at zf0 ⊢
 have hS:Sep h (geL h.length) []:=Sep.nil h
 simp only [x40,qg,qe,qd,qa,qmg,zf0,zl,qc,zn,B0,reduceIte,reduceEqDiff]
 obtain ⟨oc3,hX5,hk6⟩:=jd hF
 simp only [qrw]
 refine jq (σ:=Unit) l_0 (fun i1 x2 _=>kw l_0 i1 x2 ) (fun s fr' h'=>fr' 0=lst qb l_0∧fr' 7=lst qb l_0∧Sep h' (geL h.length)
   ([])) hX5 ⟨zf0,rfl,hS⟩ (by simp only [B0,reduceIte,reduceEqDiff]) (by simp only [B0,reduceIte,
   reduceEqDiff]) (fun _ _ _ h=>h) rfl rfl (fun _ _ _ _ h=>h) (fun _ _ _ _ h=>h) (fun _ _ _ _ h=>h) (by decide) ?_ ?_
 ·rintro i1 x2 _ fr15 h16 hx20 ⟨f18,f19,hS17⟩ f21 f22 oc4 hF7 hr8 Q9 hN10 hB14 hK11 hR12 hE13
  unfold kw at hF7
  simp only [qrt,qg,qe,f21,qd,f19,je,B0,reduceIte,reduceEqDiff]
  refine qj (v := .ref (qb x2) 0) (jp hx20 rfl) ?_
  simp only [qr,B0,reduceIte,reduceEqDiff]
  refine qj (v := .agg [.int .i64 x2.Client,.int .i64 x2.Object,.bool x2.Write,.int .i64 x2.Value,.int .i64 x2.Begin,.int .i64 x2.End]) rfl ?_
  simp only [yp,B0,reduceIte,reduceEqDiff]
  refine ki hS17 (fun b23 h24 hS25=>?_)
  simp only [qd,jh,B0,reduceIte,reduceEqDiff]
  refine z6 (us:=[.int .i64 x2.Client,.int .i64 x2.Object,.bool x2.Write,.int .i64 x2.Value,.int .i64 x2.Begin,.int .i64 x2.End]) rfl (cs':=[.int .i64 x2.Client,
    .int .i64 x2.Object,.bool x2.Write,.int .i64 x2.Value,.int .i64 x2.Begin,.int .i64 x2.End]) hS25 hW rfl rfl (nle rfl) rfl (fun h27 hS28=>?_)
  simp only [qa,B0,reduceIte,reduceEqDiff]
  refine ji hS28 hW (by simp only [B0,reduceIte,reduceEqDiff]) (fun h29 hS30=>?_)
  simp only [ja,qu2,qg,qe,qr,B0,reduceIte,reduceEqDiff]
  refine qj (v := .agg [.int .i64 x2.Client,.int .i64 x2.Object,.bool x2.Write,.int .i64 x2.Value,.int .i64 x2.Begin,.int .i64 x2.End]) rfl ?_
  simp only [qo,B0,reduceIte,reduceEqDiff]
  refine zp rfl (ql (qaz (ql qp (ql qp (ql wz (ql qp (ql qp (ql qp zf))))))) zf) (qhl
    (fun b hb=>decide_eq_true hb) x2 _ rfl) ?_
  simp only [jc,qc,kt,qa,qx,B0,reduceIte,reduceEqDiff]
  refine qt (t:=(!(ko x2))) (fun hc31=>?_) (fun hc31=>?_)
  ·rw [iteT hc31] at hF7
   simp only [qg,qe,qd,qa,qs,B0,reduceIte,reduceEqDiff]
   have e32:=qh hF7
   subst e32
   have ho33:=hr8 _ rfl
   have hk34:=hk6
   rw [ho33] at hk34
   dsimp only [jnO] at hk34
   apply hR12
   have he:=qh hk34
   subst he
   simp only [q9,B0,reduceIte,reduceEqDiff]
   exact rfl
  rw [iteF hc31] at hF7
  obtain ⟨l35,hx36,hF37⟩:=qi hF7
  simp only [q8,qr8,qg,qe,f18,qd,qa5,Option.map_some,Option.map_none,B0,reduceIte,reduceEqDiff]
  refine qj (qak hx36 (fun _=>rfl)) ?_
  simp only [zl,qc,zn,qd,qa,B0,reduceIte,reduceEqDiff]
  obtain ⟨oc40,hX42,hk43⟩:=jd hF37
  simp only [qqx]
  refine jq (σ:=Unit) l35 (fun i38 x39 _=>kv x2 i38 x39 ) (fun s fr' h'=>fr' 0=lst qb l_0∧fr' 4 = .ref [.int .i64 x2.Client,
    .int .i64 x2.Object,.bool x2.Write,.int .i64 x2.Value,.int .i64 x2.Begin,
    .int .i64 x2.End] 0∧fr' 7=lst qb l_0∧fr' 8 = .int .i64 (List.length l_0:Int)∧fr' 9 = .int .i64 (i1:Int)∧fr' 19=lst qb l35∧Sep h'
    (geL h.length) ([])) hX42 ⟨f18,rfl,f19,f22,f21,rfl,hS30⟩ (by simp only [B0,reduceIte,reduceEqDiff]) (by simp only [B0,reduceIte,
    reduceEqDiff]) (fun _ _ _ h=>h) rfl rfl (fun _ _ _ _ h=>h) (fun _ _ _ _ h=>h) (fun _ _ _ _ h=>h) (by decide) ?_ ?_
  ·rintro i38 x39 _ fr52 h53 hx61 ⟨f55,f56,f57,f58,f59,f60,hS54⟩ f62 f63 oc41 hF44 hr45 Q46 hN47 hB51 hK48 hR49 hE50
   unfold kv at hF44
   simp only [qvj,qg,qe,f60,f62,je,B0,reduceIte,reduceEqDiff]
   refine qj (v := .ref (qb x39) 0) (jp hx61 rfl) ?_
   simp only [qr,B0,reduceIte,reduceEqDiff]
   refine qj (v := .agg [.int .i64 x39.Client,.int .i64 x39.Object,.bool x39.Write,.int .i64 x39.Value,.int .i64 x39.Begin,.int .i64 x39.End]) rfl ?_
   simp only [yp,B0,reduceIte,reduceEqDiff]
   refine ki hS54 (fun b64 h65 hS66=>?_)
   simp only [jh,B0,reduceIte,reduceEqDiff]
   refine z6 (us:=[.int .i64 x39.Client,.int .i64 x39.Object,.bool x39.Write,.int .i64 x39.Value,.int .i64 x39.Begin,
     .int .i64 x39.End]) rfl (cs':=[.int .i64 x39.Client,.int .i64 x39.Object,.bool x39.Write,.int .i64 x39.Value,.int .i64 x39.Begin,
     .int .i64 x39.End]) hS66 hW rfl rfl (nle rfl) rfl (fun h68 hS69=>?_)
   simp only [qa,B0,reduceIte,reduceEqDiff]
   refine ji hS69 hW (by simp only [B0,reduceIte,reduceEqDiff]) (fun h70 hS71=>?_)
   simp only [ja,qrq,qg,qe,zb,qc,Nat.reduceAdd,Nat.zero_add,Nat.add_zero,zg,qr,B0,reduceIte,reduceEqDiff]
   refine qj (v := .int .i64 x39.Client) rfl ?_
   simp only [f56,zb,qc,Nat.reduceAdd,Nat.zero_add,Nat.add_zero,zg,qr,B0,reduceIte,reduceEqDiff]
   refine qj (v := .int .i64 x2.Client) rfl ?_
   simp only [qv,qc,qb2,qd,B0,reduceIte,reduceEqDiff]
   refine zu 6 (fun fr' h'=>Sep h' (geL h.length) ([])∧fr' 36 = .bool ((decide (x39.Client=x2.Client))&&(decide
     (x2.Begin<x39.End)))∧fr' 0=lst qb l_0∧fr' 4 = .ref [.int .i64 x2.Client,.int .i64 x2.Object,.bool x2.Write,.int .i64 x2.Value,.int .i64 x2.Begin,
     .int .i64 x2.End] 0∧fr' 6 = .ref [.int .i64 x39.Client,.int .i64 x39.Object,.bool x39.Write,.int .i64 x39.Value,.int .i64 x39.Begin,
     .int .i64 x39.End] 0∧fr' 7=lst qb l_0∧fr' 8 = .int .i64 (List.length l_0:Int)∧fr' 9 = .int .i64
     (i1:Int)∧fr' 19=lst qb l35∧fr' 20 = .int .i64 (List.length l35:Int)∧fr' 21 = .int .i64 (i38:Int)) (fun Q72 hN73=>?_) ?_
   ·simp only [List.take_succ_cons,List.take_zero]
    simp only [qf (g:=30),B0,reduceIte,reduceEqDiff]
    refine qy (t:=(decide (x39.Client=x2.Client))) (fun hg74=>?_) (fun hg74=>?_)
    ·simp only [hg74,qf (g:=30),qz,zb,qc,Nat.reduceAdd,Nat.zero_add,Nat.add_zero,zg,qr,B0,reduceIte,reduceEqDiff]
     refine qj (v := .int .i64 x39.End) rfl ?_
     simp only [hg74,qf (g:=30),qz,f56,zb,qc,Nat.reduceAdd,Nat.zero_add,Nat.add_zero,zg,qr,B0,reduceIte,reduceEqDiff]
     refine qj (v := .int .i64 x2.Begin) rfl ?_
     simp only [hg74,qf (g:=30),qz,qv,qc,ut,qn,zj,qa,qk,B0,reduceIte,reduceEqDiff]
     exact hN73 _ _ ⟨hS71,by rw [uu hg74]; simp only [B0,reduceIte,reduceEqDiff],f55,f56,rfl,f57,f58,f59,f60,f63,f62⟩
    ·simp only [hg74,qf (g:=30),zv,qn,qc,zi,qa,qk,B0,reduceIte,reduceEqDiff]
     exact hN73 _ _ ⟨hS71,by rw [uv hg74]; simp only [B0,reduceIte,reduceEqDiff],f55,f56,rfl,f57,f58,f59,f60,f63,f62⟩
   rintro fr75 h86 ⟨hS87,f76,f77,f78,f79,f80,f81,f82,f83,f84,f85⟩
   simp only [List.drop_succ_cons,List.drop_zero]
   simp only [f76,qd,B0,reduceIte,reduceEqDiff]
   refine zu 6 (fun fr' h'=>Sep h' (geL h.length) ([])∧fr' 43 = .bool (((decide (x39.Client=x2.Client))&&(decide (x2.Begin<x39.End)))&&(decide
     (x39.Begin<x2.End)))∧fr' 0=lst qb l_0∧fr' 4 = .ref [.int .i64 x2.Client,.int .i64 x2.Object,.bool x2.Write,.int .i64 x2.Value,.int .i64 x2.Begin,
     .int .i64 x2.End] 0∧fr' 7=lst qb l_0∧fr' 8 = .int .i64 (List.length l_0:Int)∧fr' 9 = .int .i64
     (i1:Int)∧fr' 19=lst qb l35∧fr' 20 = .int .i64 (List.length l35:Int)∧fr' 21 = .int .i64 (i38:Int)) (fun Q88 hN89=>?_) ?_
   ·simp only [List.take_succ_cons,List.take_zero]
    simp only [qf (g:=37),B0,reduceIte,reduceEqDiff]
    refine qy (t:=((decide (x39.Client=x2.Client))&&(decide (x2.Begin<x39.End)))) (fun hg90=>?_) (fun hg90=>?_)
    ·simp only [hg90,qf (g:=37),qz,f78,zb,qc,Nat.reduceAdd,Nat.zero_add,Nat.add_zero,zg,qr,B0,reduceIte,reduceEqDiff]
     refine qj (v := .int .i64 x2.End) rfl ?_
     simp only [hg90,qf (g:=37),qz,f79,zb,qc,Nat.reduceAdd,Nat.zero_add,Nat.add_zero,zg,qr,B0,reduceIte,reduceEqDiff]
     refine qj (v := .int .i64 x39.Begin) rfl ?_
     simp only [hg90,qf (g:=37),qz,qv,qc,ut,qn,zj,qa,qk,B0,reduceIte,reduceEqDiff]
     exact hN89 _ _ ⟨hS87,by rw [uu hg90]; simp only [B0,reduceIte,reduceEqDiff],f77,f78,f80,f81,f82,f83,f84,f85⟩
    ·simp only [hg90,qf (g:=37),zv,qn,qc,zi,qa,qk,B0,reduceIte,reduceEqDiff]
     exact hN89 _ _ ⟨hS87,by rw [uv hg90]; simp only [B0,reduceIte,reduceEqDiff],f77,f78,f80,f81,f82,f83,f84,f85⟩
   rintro fr91 h101 ⟨hS102,f92,f93,f94,f95,f96,f97,f98,f99,f100⟩
   simp only [List.drop_succ_cons,List.drop_zero]
   simp only [qa,f92,qx,B0,reduceIte,reduceEqDiff]
   refine qt (t:=(((decide (x39.Client=x2.Client))&&(decide (x2.Begin<x39.End)))&&(decide (x39.Begin<x2.End)))) (fun hc103=>?_) (fun hc103=>?_)
   ·rw [iteT hc103] at hF44
    simp only [qg,qe,qd,qa,qs,B0,reduceIte,reduceEqDiff]
    have e104:=qh hF44
    subst e104
    have ho105:=hr45 _ rfl
    have hk106:=hk43
    rw [ho105] at hk106
    dsimp only [jnO] at hk106
    apply hR49
    have e107:=qh hk106
    subst e107
    have ho108:=hr8 _ rfl
    have hk109:=hk6
    rw [ho108] at hk109
    dsimp only [jnO] at hk109
    apply hR12
    have he:=qh hk109
    subst he
    simp only [q9,B0,reduceIte,reduceEqDiff]
    exact rfl
   rw [iteF hc103] at hF44
   simp only [q8,qk,B0,reduceIte,reduceEqDiff]
   have e110:=qh hF44
   exact hN47 _ _ _ e110.symm ⟨f93,f94,f95,f96,f97,f98,hS102⟩ (f100) (f99)
  rintro _ fr112 h113 rfl ⟨f115,f116,f117,f118,f119,f120,hS114⟩
  dsimp only [jnO] at hk43
  unfold qci at hk43
  simp only [qk,B0,reduceIte,reduceEqDiff]
  have e121:=qh hk43
  exact hN10 _ _ _ e121.symm ⟨f115,f117,hS114⟩ (f119) (f118)
 rintro _ fr124 h125 rfl ⟨f127,f128,hS126⟩
 dsimp only [jnO] at hk6
 unfold qaj at hk6
 simp only [qo1,qg,qe,f127,qd,zl,qc,zn,qv,qgg,qa,qs,B0,reduceIte,reduceEqDiff]
 have he:=qh hk6
 subst he
 simp only [q9,B0,reduceIte,reduceEqDiff]
 exact rfl
theorem qgm {W:Nat→Bool}{h:Heap} (hW:∀ b,
  (geL h.length) b→W b=true) (l_0:List Call) (object_1:Int) (r:(List Call) × Bool) (hF:ul l_0 object_1=some r) : Ret E W 12 [lst qb l_0,
  .int .i64 object_1] h (fun v h'=>cut h.length h' E.sz false 9 v=some (.tup [lst qb r.1,.bool r.2])):=by
 refine Ret.of (fn:=x12) rfl (Run.of ?_)
 unfold ul at hF
 have zf0:qq [lst qb l_0,.int .i64 object_1] 0=lst qb l_0:=rfl
 have zf1:qq [lst qb l_0,.int .i64 object_1] 1 = .int .i64 object_1:=rfl
 generalize qq [lst qb l_0,.int .i64 object_1]=fr0 at zf0 zf1 ⊢
 have hS:Sep h (geL h.length) []:=Sep.nil h
 obtain ⟨v1,hx2,hF3⟩:=qi hF
 simp only [x12,qg,qe,qd,qa,qne,zf0,qo,B0,reduceIte,reduceEqDiff]
 refine zp rfl (ql zt zf) (uh (fun b hb=>decide_eq_true hb) l_0 v1 hx2) ?_
 simp only [jc,qc,kt,qd,B0,reduceIte,reduceEqDiff]
 refine zu 4 (fun fr' h'=>Sep h' (geL h.length) ([])∧fr' 16 = .bool ((!v1)||(!(qu object_1 0 2)))∧fr' 0=lst qb l_0∧fr' 1 = .int .i64 object_1)
   (fun Q4 hN5=>?_) ?_
 ·simp only [List.take_succ_cons,List.take_zero]
  simp only [qf (g:=12),B0,reduceIte,reduceEqDiff]
  refine qy (t:=(!v1)) (fun hg6=>?_) (fun hg6=>?_)
  ·simp only [hg6,qf (g:=12),z1,qn,qc,zj,qa,qk,B0,reduceIte,reduceEqDiff]
   exact hN5 _ _ ⟨hS,by rw [orT hg6]; simp only [B0,reduceIte,reduceEqDiff],zf0,zf1⟩
  ·simp only [hg6,qf (g:=12),qw,zf1,qd,qo,B0,reduceIte,reduceEqDiff]
   refine zp rfl (ql qp (ql qp (ql qp zf))) (uq (fun b hb=>decide_eq_true hb) object_1 0 2 _ rfl) ?_
   simp only [hg6,qf (g:=12),qw,jc,qc,kt,qn,zi,qa,qk,B0,reduceIte,reduceEqDiff]
   exact hN5 _ _ ⟨hS,by rw [orF hg6]; simp only [B0,reduceIte,reduceEqDiff],zf0,zf1⟩
 rintro fr7 h11 ⟨hS12,f8,f9,f10⟩
 simp only [List.drop_succ_cons,List.drop_zero]
 simp only [qa,qvy,f8,qx,B0,reduceIte,reduceEqDiff]
 refine qt (t:=((!v1)||(!(qu object_1 0 2)))) (fun hc13=>?_) (fun hc13=>?_)
 ·rw [iteT hc13] at hF3
  simp only [qg,qe,qd,qa,qs,B0,reduceIte,reduceEqDiff]
  have he:=qh hF3
  subst he
  simp only [z7,B0,reduceIte,reduceEqDiff]
  exact y5 (ql rfl (ql rfl zf))
 rw [iteF hc13] at hF3
 simp only [q8,qrn,qg,qe,qd,qa,qt4,f9,zl,qc,zn,B0,reduceIte,reduceEqDiff]
 obtain ⟨oc26,hX28,hk29⟩:=jd hF3
 simp only [qs6]
 refine jq (σ:=(List Call)) l_0 (fun i24 x25 s73=>wl object_1 i24 x25 s73) (fun s fr' h'=>∃ v21 c22,
   fr' 1 = .int .i64 object_1∧fr' 6=v21∧fr' 17=lst qb l_0∧SlF qb 6 55 v21 s c22∧Sep h' (geL h.length) (c22++([]))) hX28 ⟨.nil,[],f10,rfl,rfl,
   SlF.nil,(hS12:Sep _ (geL h.length) ([]))⟩ (by simp only [B0,reduceIte,reduceEqDiff]) (by simp only [B0,reduceIte,
   reduceEqDiff]) (fun _ _ _ h=>h) rfl rfl (fun _ _ _ _ h=>h) (fun _ _ _ _ h=>h) (fun _ _ _ _ h=>h) (by decide) ?_ ?_
 ·rintro i24 x25 s19 fr38 h39 hx44 ⟨v21,c22,f41,f42,f43,hv23,hS40⟩ f45 f46 oc27 hF30 hr31 Q32 hN33 hB37 hK34 hR35 hE36
  unfold wl at hF30
  simp only [qrk,qg,qe,f43,f45,je,B0,reduceIte,reduceEqDiff]
  refine qj (v := .ref (qb x25) 0) (jp hx44 rfl) ?_
  simp only [qr,B0,reduceIte,reduceEqDiff]
  refine qj (v := .agg [.int .i64 x25.Client,.int .i64 x25.Object,.bool x25.Write,.int .i64 x25.Value,.int .i64 x25.Begin,.int .i64 x25.End]) rfl ?_
  simp only [yp,B0,reduceIte,reduceEqDiff]
  refine ki hS40 (fun b47 h48 hS49=>?_)
  simp only [jh,B0,reduceIte,reduceEqDiff]
  refine z6 (us:=[.int .i64 x25.Client,.int .i64 x25.Object,.bool x25.Write,.int .i64 x25.Value,.int .i64 x25.Begin,
    .int .i64 x25.End]) rfl (cs':=[.int .i64 x25.Client,.int .i64 x25.Object,.bool x25.Write,.int .i64 x25.Value,.int .i64 x25.Begin,
    .int .i64 x25.End]) hS49 hW rfl rfl (nle rfl) rfl (fun h51 hS52=>?_)
  simp only [qa,B0,reduceIte,reduceEqDiff]
  refine ji hS52 hW (by simp only [B0,reduceIte,reduceEqDiff]) (fun h53 hS54=>?_)
  simp only [ja,qt8,qg,qe,zb,qc,Nat.reduceAdd,Nat.zero_add,Nat.add_zero,zg,qr,B0,reduceIte,reduceEqDiff]
  refine qj (v := .int .i64 x25.Object) rfl ?_
  simp only [f41,qd,qv,qc,qb2,qa,qun,qx,B0,reduceIte,reduceEqDiff]
  refine qt (t:=(decide (x25.Object=object_1))) (fun hc55=>?_) (fun hc55=>?_)
  ·rw [iteT hc55] at hF30
   simp only [quz,qe,f42,qd,qr,B0,reduceIte,reduceEqDiff]
   refine qj (v := .agg [.int .i64 x25.Client,.int .i64 x25.Object,.bool x25.Write,.int .i64 x25.Value,.int .i64 x25.Begin,.int .i64 x25.End]) rfl ?_
   simp only [k8,evp,B0,reduceIte,reduceEqDiff]
   refine j8 (n:=6) (f:=qb) [x25] hS54 rfl rfl (fun v56 c57 h58 hv59 hS60=>?_)
   simp only [ur,B0,reduceIte,reduceEqDiff]
   obtain ⟨l62,hx63,hF64⟩:=qi hF30
   refine yx (f:=qb) hv23 (Sep.m1 hS60) hW (fun _=>rfl) (fun _=>rfl) (SlF.first hv59 hS60 (fun _=>rfl)) hx63 (fun v65 c66 h67 hv68 hS69=>?_)
   simp only [qd,qa,qk,B0,reduceIte,reduceEqDiff]
   have e71:=qh hF64
   exact hN33 _ _ _ e71.symm ⟨v65,c66,f41,rfl,f43,hv68,(Sep.dc (Sep.m1 hS69))⟩ (f45) (f46)
  rw [iteF hc55] at hF30
  simp only [q8,qk,B0,reduceIte,reduceEqDiff]
  have e72:=qh hF30
  exact hN33 _ _ _ e72.symm ⟨v21,c22,f41,f42,f43,hv23,hS54⟩ (f45) (f46)
 rintro s74 fr79 h80 rfl ⟨v76,c77,f82,f83,f84,hv78,hS81⟩
 dsimp only [jnO] at hk29
 unfold qct at hk29
 simp only [qg,qe,f83,qd,qa,qs,B0,reduceIte,reduceEqDiff]
 have he:=qh hk29
 subst he
 simp only [z7,B0,reduceIte,reduceEqDiff]
 exact y5 (ql (SlF.cut hv78 hS81 (fun _ hb=>hb) rfl (fun _=>rfl) (fun _=>rfl)) (ql rfl zf))
theorem u4 {W:Nat→Bool}{h:Heap} (hW:∀ b,
  (geL h.length) b→W b=true) (n_0:Int) (low_1:Int) (high_2:Int) (r:Bool) (hF:some (ze n_0 low_1 high_2)=some r) : Ret E W 44 [.int .i64 n_0,
  .int .i64 low_1,.int .i64 high_2] h (fun v h'=>cut h.length h' E.sz false 9 v=some (.bool r)):=by
 refine Ret.of (fn:=x44) rfl (Run.of ?_)
 unfold ze at hF
 have zf0:qq [.int .i64 n_0,.int .i64 low_1,.int .i64 high_2] 0 = .int .i64 n_0:=rfl
 have zf1:qq [.int .i64 n_0,.int .i64 low_1,.int .i64 high_2] 1 = .int .i64 low_1:=rfl
 have zf2:qq [.int .i64 n_0,.int .i64 low_1,.int .i64 high_2] 2 = .int .i64 high_2:=rfl
 generalize qq [.int .i64 n_0,.int .i64 low_1,.int .i64 high_2]=fr0 at zf0 zf1 zf2 ⊢
 have hS:Sep h (geL h.length) []:=Sep.nil h
 simp only [x44,qg,qe,qd,qa,qtd,zf0,zf1,qv,qc,qhm,B0,reduceIte,reduceEqDiff]
 refine zu 4 (fun fr' h'=>Sep h' (geL h.length) ([])∧fr' 14 = .bool ((decide (low_1≤n_0))&&(decide (n_0≤high_2)))) (fun Q1 hN2=>?_) ?_
 ·simp only [List.take_succ_cons,List.take_zero]
  simp only [qf (g:=10),B0,reduceIte,reduceEqDiff]
  refine qy (t:=(decide (low_1≤n_0))) (fun hg3=>?_) (fun hg3=>?_)
  ·simp only [hg3,qf (g:=10),qz,zf0,qd,zf2,qv,qc,qgg,qn,zj,qa,qk,B0,reduceIte,reduceEqDiff]
   exact hN2 _ _ ⟨hS,by rw [uu hg3]; simp only [B0,reduceIte,reduceEqDiff]⟩
  ·simp only [hg3,qf (g:=10),zv,qn,qc,zi,qa,qk,B0,reduceIte,reduceEqDiff]
   exact hN2 _ _ ⟨hS,by rw [uv hg3]; simp only [B0,reduceIte,reduceEqDiff]⟩
 rintro fr4 h6 ⟨hS7,f5⟩
 simp only [List.drop_succ_cons,List.drop_zero]
 simp only [f5,qd,qa,qs,B0,reduceIte,reduceEqDiff]
 have he:=qh hF
 subst he
 simp only [q9,B0,reduceIte,reduceEqDiff]
 exact rfl
end Go.Proofs.Ytddkoiapboeemaa.X
namespace Go.Proofs.Ytddkoiapboeemaa.X
open Go
open Nat (reduceEqDiff)
theorem xj {W:Nat→Bool}{h:Heap} (hW:∀ b,
  (geL h.length) b→W b=true) (v_0:List Call) (r:Bool) (hF:jv v_0=some r) : Ret E W 43 [lst qb v_0] h
  (fun v h'=>cut h.length h' E.sz false 9 v=some (.bool r)):=by
 refine Ret.of (fn:=x43) rfl (Run.of ?_)
 unfold jv at hF
 have zf0:qq [lst qb v_0] 0=lst qb v_0:=rfl
 generalize qq [lst qb v_0]=fr0 at zf0 ⊢
 have hS:Sep h (geL h.length) []:=Sep.nil h
 simp only [x43,qg,qe,qd,qa,qln,zf0,zl,qc,zn,B0,reduceIte,reduceEqDiff]
 obtain ⟨oc3,hX5,hk6⟩:=jd hF
 simp only [qnj]
 refine jq (σ:=Unit) v_0 (fun i1 x2 _=>ym v_0 i1 x2 ) (fun s fr' h'=>fr' 0=lst qb v_0∧fr' 8=lst qb v_0∧Sep h' (geL h.length)
   ([])) hX5 ⟨zf0,rfl,hS⟩ (by simp only [B0,reduceIte,reduceEqDiff]) (by simp only [B0,reduceIte,
   reduceEqDiff]) (fun _ _ _ h=>h) rfl rfl (fun _ _ _ _ h=>h) (fun _ _ _ _ h=>h) (fun _ _ _ _ h=>h) (by decide) ?_ ?_
 ·rintro i1 x2 _ fr15 h16 hx20 ⟨f18,f19,hS17⟩ f21 f22 oc4 hF7 hr8 Q9 hN10 hB14 hK11 hR12 hE13
  unfold ym at hF7
  simp only [qsv,qg,qe,f21,qd,f19,je,B0,reduceIte,reduceEqDiff]
  refine qj (v := .ref (qb x2) 0) (jp hx20 rfl) ?_
  simp only [qr,B0,reduceIte,reduceEqDiff]
  refine qj (v := .agg [.int .i64 x2.Client,.int .i64 x2.Object,.bool x2.Write,.int .i64 x2.Value,.int .i64 x2.Begin,.int .i64 x2.End]) rfl ?_
  simp only [yp,B0,reduceIte,reduceEqDiff]
  refine ki hS17 (fun b23 h24 hS25=>?_)
  simp only [qd,jh,B0,reduceIte,reduceEqDiff]
  refine z6 (us:=[.int .i64 x2.Client,.int .i64 x2.Object,.bool x2.Write,.int .i64 x2.Value,.int .i64 x2.Begin,.int .i64 x2.End]) rfl (cs':=[.int .i64 x2.Client,
    .int .i64 x2.Object,.bool x2.Write,.int .i64 x2.Value,.int .i64 x2.Begin,.int .i64 x2.End]) hS25 hW rfl rfl (nle rfl) rfl (fun h27 hS28=>?_)
  simp only [qa,B0,reduceIte,reduceEqDiff]
  refine ji hS28 hW (by simp only [B0,reduceIte,reduceEqDiff]) (fun h29 hS30=>?_)
  simp only [ja,qv7,qg,qe,qd,qa,qv0,zb,qc,Nat.reduceAdd,Nat.zero_add,Nat.add_zero,zg,qr,B0,reduceIte,
    reduceEqDiff]
  refine qj (v := .bool x2.Write) rfl ?_
  simp only [qa,qx,B0,reduceIte,reduceEqDiff]
  obtain ⟨s31,hX33,hk34⟩:=qi hF7
  refine qbh (t:=x2.Write) (fun fr' h'=>fr' 0=lst qb v_0∧fr' 3 = .int .i64 (i1:Int)∧fr' 4 = .ref [.int .i64 x2.Client,.int .i64 x2.Object,
    .bool x2.Write,.int .i64 x2.Value,.int .i64 x2.Begin,
    .int .i64 x2.End] 0∧fr' 5 = .int .i64 s31∧fr' 8=lst qb v_0∧fr' 9 = .int .i64 (List.length v_0:Int)∧fr' 10 = .int .i64 (i1:Int)∧Sep h'
    (geL h.length) ([])) (fun Q35 hN36 hR37 hE38=>⟨fun hc39=>?_,fun hc39=>?_⟩) ?_
  ·rw [iteT hc39] at hX33
   simp only [qe,qd,qa,qk,B0,reduceIte,reduceEqDiff]
   have e40:=qh hX33
   subst e40
   exact hN36 _ _ ⟨f18,rfl,rfl,rfl,f19,f22,f21,hS30⟩
  ·rw [iteF hc39] at hX33
   simp only [q8,qk,B0,reduceIte,reduceEqDiff]
   have e41:=qh hX33
   subst e41
   exact hN36 _ _ ⟨f18,rfl,rfl,rfl,f19,f22,f21,hS30⟩
  rintro fr42 h43 ⟨f45,f46,f47,f48,f49,f50,f51,hS44⟩
  unfold uf at hk34
  simp only [qt2,qg,qe,f47,zb,qc,Nat.reduceAdd,Nat.zero_add,Nat.add_zero,zg,qr,B0,reduceIte,reduceEqDiff]
  refine qj (v := .int .i64 x2.Client) rfl ?_
  simp only [qo,B0,reduceIte,reduceEqDiff]
  refine zp rfl (ql qp (ql qp (ql qp zf))) (u4 (fun b hb=>decide_eq_true hb) x2.Client 0 3 _ rfl) ?_
  simp only [jc,qc,kt,qd,B0,reduceIte,reduceEqDiff]
  refine zu 5 (fun fr' h'=>Sep h' (geL h.length) ([])∧fr' 26 = .bool ((!(ze x2.Client 0 3)) ||
    (!(ze x2.Object 0 2)))∧fr' 0=lst qb v_0∧fr' 3 = .int .i64 (i1:Int)∧fr' 4 = .ref [.int .i64 x2.Client,.int .i64 x2.Object,.bool x2.Write,
    .int .i64 x2.Value,.int .i64 x2.Begin,
    .int .i64 x2.End] 0∧fr' 5 = .int .i64 s31∧fr' 8=lst qb v_0∧fr' 9 = .int .i64 (List.length v_0:Int)∧fr' 10 = .int .i64 (i1:Int))
    (fun Q52 hN53=>?_) ?_
  ·simp only [List.take_succ_cons,List.take_zero]
   simp only [qf (g:=21),B0,reduceIte,reduceEqDiff]
   refine qy (t:=(!(ze x2.Client 0 3))) (fun hg54=>?_) (fun hg54=>?_)
   ·simp only [hg54,qf (g:=21),z1,qn,qc,zj,qa,qk,B0,reduceIte,reduceEqDiff]
    exact hN53 _ _ ⟨hS44,by rw [orT hg54]; simp only [B0,reduceIte,reduceEqDiff],f45,f46,f47,f48,f49,f50,f51⟩
   ·simp only [hg54,qf (g:=21),qw,f47,zb,qc,Nat.reduceAdd,Nat.zero_add,Nat.add_zero,zg,qr,B0,reduceIte,reduceEqDiff]
    refine qj (v := .int .i64 x2.Object) rfl ?_
    simp only [hg54,qf (g:=21),qw,qo,B0,reduceIte,reduceEqDiff]
    refine zp rfl (ql qp (ql qp (ql qp zf))) (u4 (fun b hb=>decide_eq_true hb) x2.Object 0 2 _ rfl) ?_
    simp only [hg54,qf (g:=21),qw,jc,qc,kt,qn,zi,qa,qk,B0,reduceIte,reduceEqDiff]
    exact hN53 _ _ ⟨hS44,by rw [orF hg54]; simp only [B0,reduceIte,reduceEqDiff],f45,f46,f47,f48,f49,f50,f51⟩
  rintro fr55 h64 ⟨hS65,f56,f57,f58,f59,f60,f61,f62,f63⟩
  simp only [List.drop_succ_cons,List.drop_zero]
  simp only [f56,qd,B0,reduceIte,reduceEqDiff]
  refine zu 6 (fun fr' h'=>Sep h' (geL h.length) ([])∧fr' 33 = .bool (((!(ze x2.Client 0 3))||(!(ze x2.Object 0 2))) ||
    (!(ze x2.Value s31 9)))∧fr' 0=lst qb v_0∧fr' 3 = .int .i64 (i1:Int)∧fr' 4 = .ref [.int .i64 x2.Client,.int .i64 x2.Object,.bool x2.Write,
    .int .i64 x2.Value,.int .i64 x2.Begin,
    .int .i64 x2.End] 0∧fr' 8=lst qb v_0∧fr' 9 = .int .i64 (List.length v_0:Int)∧fr' 10 = .int .i64 (i1:Int)) (fun Q66 hN67=>?_) ?_
  ·simp only [List.take_succ_cons,List.take_zero]
   simp only [qf (g:=27),B0,reduceIte,reduceEqDiff]
   refine qy (t:=((!(ze x2.Client 0 3))||(!(ze x2.Object 0 2)))) (fun hg68=>?_) (fun hg68=>?_)
   ·simp only [hg68,qf (g:=27),z1,qn,qc,zj,qa,qk,B0,reduceIte,reduceEqDiff]
    exact hN67 _ _ ⟨hS65,by rw [orT hg68]; simp only [B0,reduceIte,reduceEqDiff],f57,f58,f59,f61,f62,f63⟩
   ·simp only [hg68,qf (g:=27),qw,f59,zb,qc,Nat.reduceAdd,Nat.zero_add,Nat.add_zero,zg,qr,B0,reduceIte,reduceEqDiff]
    refine qj (v := .int .i64 x2.Value) rfl ?_
    simp only [hg68,qf (g:=27),qw,f60,qd,qo,B0,reduceIte,reduceEqDiff]
    refine zp rfl (ql qp (ql qp (ql qp zf))) (u4 (fun b hb=>decide_eq_true hb) x2.Value s31 9 _ rfl) ?_
    simp only [hg68,qf (g:=27),qw,jc,qc,kt,qn,zi,qa,qk,B0,reduceIte,reduceEqDiff]
    exact hN67 _ _ ⟨hS65,by rw [orF hg68]; simp only [B0,reduceIte,reduceEqDiff],f57,f58,f59,f61,f62,f63⟩
  rintro fr69 h77 ⟨hS78,f70,f71,f72,f73,f74,f75,f76⟩
  simp only [List.drop_succ_cons,List.drop_zero]
  simp only [f70,qd,B0,reduceIte,reduceEqDiff]
  refine zu 5 (fun fr' h'=>Sep h' (geL h.length) ([])∧fr' 39 = .bool ((((!(ze x2.Client 0 3))||(!(ze x2.Object 0 2)))||(!(ze x2.Value s31 9))) ||
    (!(ze x2.Begin 0 100)))∧fr' 0=lst qb v_0∧fr' 3 = .int .i64 (i1:Int)∧fr' 4 = .ref [.int .i64 x2.Client,.int .i64 x2.Object,.bool x2.Write,
    .int .i64 x2.Value,.int .i64 x2.Begin,
    .int .i64 x2.End] 0∧fr' 8=lst qb v_0∧fr' 9 = .int .i64 (List.length v_0:Int)∧fr' 10 = .int .i64 (i1:Int)) (fun Q79 hN80=>?_) ?_
  ·simp only [List.take_succ_cons,List.take_zero]
   simp only [qf (g:=34),B0,reduceIte,reduceEqDiff]
   refine qy (t:=(((!(ze x2.Client 0 3))||(!(ze x2.Object 0 2)))||(!(ze x2.Value s31 9)))) (fun hg81=>?_) (fun hg81=>?_)
   ·simp only [hg81,qf (g:=34),z1,qn,qc,zj,qa,qk,B0,reduceIte,reduceEqDiff]
    exact hN80 _ _ ⟨hS78,by rw [orT hg81]; simp only [B0,reduceIte,reduceEqDiff],f71,f72,f73,f74,f75,f76⟩
   ·simp only [hg81,qf (g:=34),qw,f73,zb,qc,Nat.reduceAdd,Nat.zero_add,Nat.add_zero,zg,qr,B0,reduceIte,reduceEqDiff]
    refine qj (v := .int .i64 x2.Begin) rfl ?_
    simp only [hg81,qf (g:=34),qw,qo,B0,reduceIte,reduceEqDiff]
    refine zp rfl (ql qp (ql qp (ql qp zf))) (u4 (fun b hb=>decide_eq_true hb) x2.Begin 0 100 _ rfl) ?_
    simp only [hg81,qf (g:=34),qw,jc,qc,kt,qn,zi,qa,qk,B0,reduceIte,reduceEqDiff]
    exact hN80 _ _ ⟨hS78,by rw [orF hg81]; simp only [B0,reduceIte,reduceEqDiff],f71,f72,f73,f74,f75,f76⟩
  rintro fr82 h90 ⟨hS91,f83,f84,f85,f86,f87,f88,f89⟩
  simp only [List.drop_succ_cons,List.drop_zero]
  simp only [f83,qd,B0,reduceIte,reduceEqDiff]
  refine zu 5 (fun fr' h'=>Sep h' (geL h.length) ([])∧fr' 45 = .bool (((((!(ze x2.Client 0 3))||(!(ze x2.Object 0 2)))||(!(ze x2.Value s31 9))) ||
    (!(ze x2.Begin 0 100)))||(!(ze x2.End 0 100)))∧fr' 0=lst qb v_0∧fr' 3 = .int .i64 (i1:Int)∧fr' 4 = .ref [.int .i64 x2.Client,
    .int .i64 x2.Object,.bool x2.Write,.int .i64 x2.Value,.int .i64 x2.Begin,
    .int .i64 x2.End] 0∧fr' 8=lst qb v_0∧fr' 9 = .int .i64 (List.length v_0:Int)∧fr' 10 = .int .i64 (i1:Int)) (fun Q92 hN93=>?_) ?_
  ·simp only [List.take_succ_cons,List.take_zero]
   simp only [qf (g:=40),B0,reduceIte,reduceEqDiff]
   refine qy (t:=((((!(ze x2.Client 0 3))||(!(ze x2.Object 0 2)))||(!(ze x2.Value s31 9)))||(!(ze x2.Begin 0 100)))) (fun hg94=>?_)
     (fun hg94=>?_)
   ·simp only [hg94,qf (g:=40),z1,qn,qc,zj,qa,qk,B0,reduceIte,reduceEqDiff]
    exact hN93 _ _ ⟨hS91,by rw [orT hg94]; simp only [B0,reduceIte,reduceEqDiff],f84,f85,f86,f87,f88,f89⟩
   ·simp only [hg94,qf (g:=40),qw,f86,zb,qc,Nat.reduceAdd,Nat.zero_add,Nat.add_zero,zg,qr,B0,reduceIte,reduceEqDiff]
    refine qj (v := .int .i64 x2.End) rfl ?_
    simp only [hg94,qf (g:=40),qw,qo,B0,reduceIte,reduceEqDiff]
    refine zp rfl (ql qp (ql qp (ql qp zf))) (u4 (fun b hb=>decide_eq_true hb) x2.End 0 100 _ rfl) ?_
    simp only [hg94,qf (g:=40),qw,jc,qc,kt,qn,zi,qa,qk,B0,reduceIte,reduceEqDiff]
    exact hN93 _ _ ⟨hS91,by rw [orF hg94]; simp only [B0,reduceIte,reduceEqDiff],f84,f85,f86,f87,f88,f89⟩
  rintro fr95 h103 ⟨hS104,f96,f97,f98,f99,f100,f101,f102⟩
  simp only [List.drop_succ_cons,List.drop_zero]
  simp only [f96,qd,B0,reduceIte,reduceEqDiff]
  refine zu 6 (fun fr' h'=>Sep h' (geL h.length) ([])∧fr' 52 = .bool ((((((!(ze x2.Client 0 3))||(!(ze x2.Object 0 2)))||(!(ze x2.Value s31 9))) ||
    (!(ze x2.Begin 0 100)))||(!(ze x2.End 0 100)))||(decide (x2.End≤x2.Begin)))∧fr' 0=lst qb v_0∧fr' 3 = .int .i64
    (i1:Int)∧fr' 4 = .ref [.int .i64 x2.Client,.int .i64 x2.Object,.bool x2.Write,.int .i64 x2.Value,.int .i64 x2.Begin,
    .int .i64 x2.End] 0∧fr' 8=lst qb v_0∧fr' 9 = .int .i64 (List.length v_0:Int)∧fr' 10 = .int .i64 (i1:Int)) (fun Q105 hN106=>?_) ?_
  ·simp only [List.take_succ_cons,List.take_zero]
   simp only [qf (g:=46),B0,reduceIte,reduceEqDiff]
   refine qy (t:=(((((!(ze x2.Client 0 3))||(!(ze x2.Object 0 2)))||(!(ze x2.Value s31 9)))||(!(ze x2.Begin 0 100))) ||
     (!(ze x2.End 0 100)))) (fun hg107=>?_) (fun hg107=>?_)
   ·simp only [hg107,qf (g:=46),z1,qn,qc,zj,qa,qk,B0,reduceIte,reduceEqDiff]
    exact hN106 _ _ ⟨hS104,by rw [orT hg107]; simp only [B0,reduceIte,reduceEqDiff],f97,f98,f99,f100,f101,f102⟩
   ·simp only [hg107,qf (g:=46),qw,f99,zb,qc,Nat.reduceAdd,Nat.zero_add,Nat.add_zero,zg,qr,B0,reduceIte,reduceEqDiff]
    refine qj (v := .int .i64 x2.Begin) rfl ?_
    simp only [hg107,qf (g:=46),qw,f99,zb,qc,Nat.reduceAdd,Nat.zero_add,Nat.add_zero,zg,qr,B0,reduceIte,reduceEqDiff]
    refine qj (v := .int .i64 x2.End) rfl ?_
    simp only [hg107,qf (g:=46),qw,qv,qc,qhm,qn,zi,qa,qk,B0,reduceIte,reduceEqDiff]
    exact hN106 _ _ ⟨hS104,by rw [orF hg107]; simp only [B0,reduceIte,reduceEqDiff],f97,f98,f99,f100,f101,f102⟩
  rintro fr108 h116 ⟨hS117,f109,f110,f111,f112,f113,f114,f115⟩
  simp only [List.drop_succ_cons,List.drop_zero]
  simp only [qa,f109,qx,B0,reduceIte,reduceEqDiff]
  refine qt (t:=((((((!(ze x2.Client 0 3))||(!(ze x2.Object 0 2)))||(!(ze x2.Value s31 9)))||(!(ze x2.Begin 0 100))) ||
    (!(ze x2.End 0 100)))||(decide (x2.End≤x2.Begin)))) (fun hc118=>?_) (fun hc118=>?_)
  ·rw [iteT hc118] at hk34
   simp only [qg,qe,qd,qa,qs,B0,reduceIte,reduceEqDiff]
   have e119:=qh hk34
   subst e119
   have ho120:=hr8 _ rfl
   have hk121:=hk6
   rw [ho120] at hk121
   dsimp only [jnO] at hk121
   apply hR12
   have he:=qh hk121
   subst he
   simp only [q9,B0,reduceIte,reduceEqDiff]
   exact rfl
  rw [iteF hc118] at hk34
  obtain ⟨l122,hx123,hF124⟩:=qi hk34
  simp only [q8,qtb,qg,qe,f110,qd,f111,qa5,Option.map_some,Option.map_none,B0,reduceIte,reduceEqDiff]
  refine qj (qak hx123 (fun _=>rfl)) ?_
  simp only [zl,qc,zn,qd,qa,B0,reduceIte,reduceEqDiff]
  obtain ⟨oc127,hX129,hk130⟩:=jd hF124
  simp only [qvt]
  refine jq (σ:=Unit) l122 (fun i125 x126 _=>yn x2 i125 x126 ) (fun s fr' h'=>fr' 0=lst qb v_0∧fr' 4 = .ref [.int .i64 x2.Client,
    .int .i64 x2.Object,.bool x2.Write,.int .i64 x2.Value,.int .i64 x2.Begin,
    .int .i64 x2.End] 0∧fr' 8=lst qb v_0∧fr' 9 = .int .i64 (List.length v_0:Int)∧fr' 10 = .int .i64 (i1:Int)∧fr' 55=lst qb l122∧Sep h'
    (geL h.length) ([])) hX129 ⟨f110,f112,f113,f114,f115,rfl,hS117⟩ (by simp only [B0,reduceIte,reduceEqDiff]) (by simp only [B0,reduceIte,
    reduceEqDiff]) (fun _ _ _ h=>h) rfl rfl (fun _ _ _ _ h=>h) (fun _ _ _ _ h=>h) (fun _ _ _ _ h=>h) (by decide) ?_ ?_
  ·rintro i125 x126 _ fr139 h140 hx148 ⟨f142,f143,f144,f145,f146,f147,hS141⟩ f149 f150 oc128 hF131 hr132 Q133 hN134 hB138 hK135 hR136 hE137
   unfold yn at hF131
   simp only [qtj,qg,qe,f147,f149,je,B0,reduceIte,reduceEqDiff]
   refine qj (v := .ref (qb x126) 0) (jp hx148 rfl) ?_
   simp only [qr,B0,reduceIte,reduceEqDiff]
   refine qj (v := .agg [.int .i64 x126.Client,.int .i64 x126.Object,.bool x126.Write,.int .i64 x126.Value,.int .i64 x126.Begin,.int .i64 x126.End]) rfl ?_
   simp only [yp,B0,reduceIte,reduceEqDiff]
   refine ki hS141 (fun b151 h152 hS153=>?_)
   simp only [jh,B0,reduceIte,reduceEqDiff]
   refine z6 (us:=[.int .i64 x126.Client,.int .i64 x126.Object,.bool x126.Write,.int .i64 x126.Value,.int .i64 x126.Begin,
     .int .i64 x126.End]) rfl (cs':=[.int .i64 x126.Client,.int .i64 x126.Object,.bool x126.Write,.int .i64 x126.Value,.int .i64 x126.Begin,
     .int .i64 x126.End]) hS153 hW rfl rfl (nle rfl) rfl (fun h155 hS156=>?_)
   simp only [qa,B0,reduceIte,reduceEqDiff]
   refine ji hS156 hW (by simp only [B0,reduceIte,reduceEqDiff]) (fun h157 hS158=>?_)
   simp only [ja,qrc,qg,qe,f143,zb,qc,Nat.reduceAdd,Nat.zero_add,Nat.add_zero,zg,qr,B0,reduceIte,reduceEqDiff]
   refine qj (v := .int .i64 x2.Client) rfl ?_
   simp only [zb,qc,Nat.reduceAdd,Nat.zero_add,Nat.add_zero,zg,qr,B0,reduceIte,reduceEqDiff]
   refine qj (v := .int .i64 x126.Client) rfl ?_
   simp only [qv,qc,qb2,qd,B0,reduceIte,reduceEqDiff]
   refine zu 6 (fun fr' h'=>Sep h' (geL h.length) ([])∧fr' 72 = .bool ((decide (x2.Client=x126.Client))&&(decide
     (x126.Begin<x2.End)))∧fr' 0=lst qb v_0∧fr' 4 = .ref [.int .i64 x2.Client,.int .i64 x2.Object,.bool x2.Write,.int .i64 x2.Value,.int .i64 x2.Begin,
     .int .i64 x2.End] 0∧fr' 7 = .ref [.int .i64 x126.Client,.int .i64 x126.Object,.bool x126.Write,.int .i64 x126.Value,.int .i64 x126.Begin,
     .int .i64 x126.End] 0∧fr' 8=lst qb v_0∧fr' 9 = .int .i64 (List.length v_0:Int)∧fr' 10 = .int .i64
     (i1:Int)∧fr' 55=lst qb l122∧fr' 56 = .int .i64 (List.length l122:Int)∧fr' 57 = .int .i64 (i125:Int)) (fun Q159 hN160=>?_) ?_
   ·simp only [List.take_succ_cons,List.take_zero]
    simp only [qf (g:=66),B0,reduceIte,reduceEqDiff]
    refine qy (t:=(decide (x2.Client=x126.Client))) (fun hg161=>?_) (fun hg161=>?_)
    ·simp only [hg161,qf (g:=66),qz,f143,zb,qc,Nat.reduceAdd,Nat.zero_add,Nat.add_zero,zg,qr,B0,reduceIte,reduceEqDiff]
     refine qj (v := .int .i64 x2.End) rfl ?_
     simp only [hg161,qf (g:=66),qz,zb,qc,Nat.reduceAdd,Nat.zero_add,Nat.add_zero,zg,qr,B0,reduceIte,reduceEqDiff]
     refine qj (v := .int .i64 x126.Begin) rfl ?_
     simp only [hg161,qf (g:=66),qz,qv,qc,ut,qn,zj,qa,qk,B0,reduceIte,reduceEqDiff]
     exact hN160 _ _ ⟨hS158,by rw [uu hg161]; simp only [B0,reduceIte,reduceEqDiff],f142,f143,rfl,f144,f145,f146,f147,f150,f149⟩
    ·simp only [hg161,qf (g:=66),zv,qn,qc,zi,qa,qk,B0,reduceIte,reduceEqDiff]
     exact hN160 _ _ ⟨hS158,by rw [uv hg161]; simp only [B0,reduceIte,reduceEqDiff],f142,f143,rfl,f144,f145,f146,f147,f150,f149⟩
   rintro fr162 h173 ⟨hS174,f163,f164,f165,f166,f167,f168,f169,f170,f171,f172⟩
   simp only [List.drop_succ_cons,List.drop_zero]
   simp only [f163,qd,B0,reduceIte,reduceEqDiff]
   refine zu 6 (fun fr' h'=>Sep h' (geL h.length) ([])∧fr' 79 = .bool (((decide (x2.Client=x126.Client))&&(decide (x126.Begin<x2.End)))&&(decide
     (x2.Begin<x126.End)))∧fr' 0=lst qb v_0∧fr' 4 = .ref [.int .i64 x2.Client,.int .i64 x2.Object,.bool x2.Write,.int .i64 x2.Value,.int .i64 x2.Begin,
     .int .i64 x2.End] 0∧fr' 8=lst qb v_0∧fr' 9 = .int .i64 (List.length v_0:Int)∧fr' 10 = .int .i64
     (i1:Int)∧fr' 55=lst qb l122∧fr' 56 = .int .i64 (List.length l122:Int)∧fr' 57 = .int .i64 (i125:Int)) (fun Q175 hN176=>?_) ?_
   ·simp only [List.take_succ_cons,List.take_zero]
    simp only [qf (g:=73),B0,reduceIte,reduceEqDiff]
    refine qy (t:=((decide (x2.Client=x126.Client))&&(decide (x126.Begin<x2.End)))) (fun hg177=>?_) (fun hg177=>?_)
    ·simp only [hg177,qf (g:=73),qz,f166,zb,qc,Nat.reduceAdd,Nat.zero_add,Nat.add_zero,zg,qr,B0,reduceIte,reduceEqDiff]
     refine qj (v := .int .i64 x126.End) rfl ?_
     simp only [hg177,qf (g:=73),qz,f165,zb,qc,Nat.reduceAdd,Nat.zero_add,Nat.add_zero,zg,qr,B0,reduceIte,reduceEqDiff]
     refine qj (v := .int .i64 x2.Begin) rfl ?_
     simp only [hg177,qf (g:=73),qz,qv,qc,ut,qn,zj,qa,qk,B0,reduceIte,reduceEqDiff]
     exact hN176 _ _ ⟨hS174,by rw [uu hg177]; simp only [B0,reduceIte,reduceEqDiff],f164,f165,f167,f168,f169,f170,f171,f172⟩
    ·simp only [hg177,qf (g:=73),zv,qn,qc,zi,qa,qk,B0,reduceIte,reduceEqDiff]
     exact hN176 _ _ ⟨hS174,by rw [uv hg177]; simp only [B0,reduceIte,reduceEqDiff],f164,f165,f167,f168,f169,f170,f171,f172⟩
   rintro fr178 h188 ⟨hS189,f179,f180,f181,f182,f183,f184,f185,f186,f187⟩
   simp only [List.drop_succ_cons,List.drop_zero]
   simp only [qa,f179,qx,B0,reduceIte,reduceEqDiff]
   refine qt (t:=(((decide (x2.Client=x126.Client))&&(decide (x126.Begin<x2.End)))&&(decide (x2.Begin<x126.End)))) (fun hc190=>?_) (fun hc190=>?_)
   ·rw [iteT hc190] at hF131
    simp only [qg,qe,qd,qa,qs,B0,reduceIte,reduceEqDiff]
    have e191:=qh hF131
    subst e191
    have ho192:=hr132 _ rfl
    have hk193:=hk130
    rw [ho192] at hk193
    dsimp only [jnO] at hk193
    apply hR136
    have e194:=qh hk193
    subst e194
    have ho195:=hr8 _ rfl
    have hk196:=hk6
    rw [ho195] at hk196
    dsimp only [jnO] at hk196
    apply hR12
    have he:=qh hk196
    subst he
    simp only [q9,B0,reduceIte,reduceEqDiff]
    exact rfl
   rw [iteF hc190] at hF131
   simp only [q8,qk,B0,reduceIte,reduceEqDiff]
   have e197:=qh hF131
   exact hN134 _ _ _ e197.symm ⟨f180,f181,f182,f183,f184,f185,hS189⟩ (f187) (f186)
  rintro _ fr199 h200 rfl ⟨f202,f203,f204,f205,f206,f207,hS201⟩
  dsimp only [jnO] at hk130
  unfold qcz at hk130
  simp only [qk,B0,reduceIte,reduceEqDiff]
  have e208:=qh hk130
  exact hN10 _ _ _ e208.symm ⟨f202,f204,hS201⟩ (f206) (f205)
 rintro _ fr212 h213 rfl ⟨f215,f216,hS214⟩
 dsimp only [jnO] at hk6
 unfold qc4 at hk6
 simp only [qlx,qg,qe,f215,qd,zl,qc,zn,qv,qgg,qa,qs,B0,reduceIte,reduceEqDiff]
 have he:=qh hk6
 subst he
 simp only [q9,B0,reduceIte,reduceEqDiff]
 exact rfl
theorem qc6 {W:Nat→Bool}{h:Heap} (hW:∀ b,
  (geL h.length) b→W b=true) (s_0:List Call) {g1:Nat} {caps1:List XV} (hm1:E.mode g1=1) (f_1:Call→Option Bool) (hf1:∀ (W:Nat→Bool) (h:Heap),(∀ b,
  h.length≤b→W b=true)→∀ a0 r,f_1 a0=some r→Ret E W g1 ([.agg [.int .i64 a0.Client,.int .i64 a0.Object,.bool a0.Write,.int .i64 a0.Value,.int .i64 a0.Begin,
  .int .i64 a0.End]]++caps1) h (fun v h'=>cut h.length h' E.sz false 9 v=some (.bool r))) (r:Int)
  (hF:kh s_0 f_1=some r) : Ret E W 65 [lst qb s_0,.fn g1 caps1] h (fun v h'=>cut h.length h' E.sz false 9 v=some (.int .i64 r)):=by
 refine Ret.of (fn:=x65) rfl (Run.of ?_)
 unfold kh at hF
 have zf0:qq [lst qb s_0,.fn g1 caps1] 0=lst qb s_0:=rfl
 have zf1:qq [lst qb s_0,.fn g1 caps1] 1 = .fn g1 caps1:=rfl
 generalize qq [lst qb s_0,.fn g1 caps1]=fr0 at zf0 zf1 ⊢
 have hS:Sep h (geL h.length) []:=Sep.nil h
 simp only [x65,qg,qe,qd,qa,qtz,zf0,zl,qc,zn,B0,reduceIte,reduceEqDiff]
 obtain ⟨oc3,hX5,hk6⟩:=jd hF
 simp only [qu6]
 refine jq (σ:=Unit) s_0 (fun i1 x2 _=>kj f_1 i1 x2 ) (fun s fr' h'=>fr' 0=lst qb s_0∧fr' 1 = .fn g1 caps1∧Sep h' (geL h.length)
   ([])) hX5 ⟨zf0,zf1,hS⟩ (by simp only [B0,reduceIte,reduceEqDiff]) (by simp only [B0,reduceIte,
   reduceEqDiff]) (fun _ _ _ h=>h) rfl rfl (fun _ _ _ _ h=>h) (fun _ _ _ _ h=>h) (fun _ _ _ _ h=>h) (by decide) ?_ ?_
 ·rintro i1 x2 _ fr15 h16 hx20 ⟨f18,f19,hS17⟩ f21 f22 oc4 hF7 hr8 Q9 hN10 hB14 hK11 hR12 hE13
  unfold kj at hF7
  simp only [qrs,qg,qe,f21,qd,qa,quf,f19,f18,je,B0,reduceIte,reduceEqDiff]
  refine qj (v := .ref (qb x2) 0) (jp hx20 rfl) ?_
  simp only [qr,B0,reduceIte,reduceEqDiff]
  refine qj (v := .agg [.int .i64 x2.Client,.int .i64 x2.Object,.bool x2.Write,.int .i64 x2.Value,.int .i64 x2.Begin,.int .i64 x2.End]) rfl ?_
  obtain ⟨v23,hx24,hF25⟩:=qi hF7
  simp only [qo,B0,reduceIte,reduceEqDiff]
  refine zp hm1 (ql (qaz (ql qp (ql qp (ql wz (ql qp (ql qp (ql qp zf))))))) zf) (hf1 _ _
    (fun b hb=>decide_eq_true hb) x2 v23 hx24) ?_
  simp only [qa,qsn,qx,B0,reduceIte,reduceEqDiff]
  refine qt (t:=v23) (fun hc26=>?_) (fun hc26=>?_)
  ·rw [iteT hc26] at hF25
   simp only [qg,qe,qd,qa,qs,B0,reduceIte,reduceEqDiff]
   have e27:=qh hF25
   subst e27
   have ho28:=hr8 _ rfl
   have hk29:=hk6
   rw [ho28] at hk29
   dsimp only [jnO] at hk29
   apply hR12
   have he:=qh hk29
   subst he
   simp only [q9,B0,reduceIte,reduceEqDiff]
   exact rfl
  rw [iteF hc26] at hF25
  simp only [q8,qk,B0,reduceIte,reduceEqDiff]
  have e30:=qh hF25
  exact hN10 _ _ _ e30.symm ⟨f18,f19,hS17⟩ (f21) (f22)
 rintro _ fr32 h33 rfl ⟨f35,f36,hS34⟩
 dsimp only [jnO] at hk6
 unfold u9 at hk6
 simp only [qg,qe,qd,qa,qs,B0,reduceIte,reduceEqDiff]
 have he:=qh hk6
 subst he
 simp only [q9,B0,reduceIte,reduceEqDiff]
 exact rfl
theorem qcv {W:Nat→Bool}{h:Heap}{lo:Nat→Prop}{S0:List Obj} (hW:∀ b,
  lo b→W b=true) (k:Nat) (pv0:XV) (pc0:List Obj) (s_0:List Call) (ph0:SlF qb 6 55 pv0 s_0 pc0) {g1:Nat} {caps1:List XV} (hm1:E.mode g1=1)
  (del_1:Call→Option Bool) (hf1:∀ (W:Nat→Bool) (h:Heap),(∀ b,h.length≤b→W b=true)→∀ a0 r,del_1 a0=some r→Ret E W g1 ([.agg [.int .i64 a0.Client,
  .int .i64 a0.Object,.bool a0.Write,.int .i64 a0.Value,.int .i64 a0.Begin,
  .int .i64 a0.End]]++caps1) h (fun v h'=>cut h.length h' E.sz false 9 v=some (.bool r))) (r:List Call) (hF:kz k s_0 del_1=some r)
  (hS:Sep h lo (pc0++(S0))) : Ret E W 45 [pv0,.fn g1 caps1] h (fun v h'=>∃ rv0 rc0,v=rv0∧SlF qb 6 55 rv0 r rc0∧Sep h' lo (rc0++(S0))):=by
 refine Ret.of (fn:=x45) rfl (Run.of ?_)
 unfold kz at hF
 have zf0:qq [pv0,.fn g1 caps1] 0=pv0:=rfl
 have zf1:qq [pv0,.fn g1 caps1] 1 = .fn g1 caps1:=rfl
 generalize qq [pv0,.fn g1 caps1]=fr0 at zf0 zf1 ⊢
 obtain ⟨v1,hx2,hF3⟩:=qi hF
 simp only [x45,qg,qe,qd,qa,qpa,zf0,zf1,qo,B0,reduceIte,reduceEqDiff]
 refine zp rfl (ql (SlF.snap ph0 hS rfl (fun _=>rfl) (fun _=>rfl)) (ql qfi zf)) (qc6 (fun b hb=>decide_eq_true hb) s_0 (g1:=g1)
   (caps1:=caps1) hm1 del_1 hf1 v1 hx2) ?_
 simp only [qd,qa,qm0,qg,qe,qv,qc,qb2,qrm,qx,B0,reduceIte,reduceEqDiff]
 refine qt (t:=(decide (v1=(-1)))) (fun hc4=>?_) (fun hc4=>?_)
 ·rw [iteT hc4] at hF3
  simp only [qg,qe,zf0,qd,qa,qs,B0,reduceIte,reduceEqDiff]
  have he:=qh hF3
  subst he
  simp only [q9,B0,reduceIte,reduceEqDiff]
  exact ⟨pv0,pc0,by first | trivial | rfl,ph0,hS⟩
 rw [iteF hc4] at hF3
 simp only [q8,ql7,qg,qe,qd,qv,qc,xl,qa,B0,reduceIte,reduceEqDiff]
 obtain ⟨oc17,hX19,hk20⟩:=jd hF3
 simp only [qwc]
 refine qff (σ:=Int × Int × (List Call)) (fun s66=>jg del_1 s66.1 s66.2.1 s66.2.2) (fun s fr' h'=>∃ c13,
   fr' 0=pv0∧fr' 1 = .fn g1 caps1∧fr' 5 = .int .i64 s.1∧fr' 6 = .int .i64 s.2.1∧SlF qb 6 55 pv0 s.2.2 c13∧Sep h' lo (c13++(S0))) hX19 ⟨pc0,zf0,zf1,rfl,
   rfl,ph0,hS⟩ (fun _ _ _ h=>h) ?_ ?_
 ·rintro ⟨s10,s11,s12⟩ fr29 h30 ⟨c13,f32,f33,f34,f35,hv14,hS31⟩ oc18 hF21 hr22 Q23 hN24 hK25 hR26 hE27
  dsimp only at *
  unfold jg at hF21
  simp only [qra,qg,qe,f35,qd,f32,zl,qc,SlF.plen hv14,qv,qdn,qa,qx,B0,reduceIte,reduceEqDiff]
  refine qt (t:=(decide (s11<(List.length s12:Int)))) (fun hc37=>?_) (fun hc37=>?_)
  ·rw [iteT hc37] at hF21
   obtain ⟨x38,hx39,hF40⟩:=qi hF21
   simp only [q8,qt3,qg,qae,qua,qe,f32,qd,f35,je,B0,reduceIte,reduceEqDiff]
   obtain ⟨b41,hb42⟩:=SlF.isrow hv14 (wx hx39)
   refine qj (SlF.ia hv14 hb42 hx39) ?_
   simp only [qr,B0,reduceIte,reduceEqDiff]
   refine qj (v := .agg [.int .i64 x38.Client,.int .i64 x38.Object,.bool x38.Write,.int .i64 x38.Value,.int .i64 x38.Begin,
     .int .i64 x38.End]) ((SlF.lds (o:=0) hv14 hS31 hb42 hx39 (fun _=>rfl) (nle rfl)).trans rfl) ?_
   simp only [yp,B0,reduceIte,reduceEqDiff]
   refine ki hS31 (fun b43 h44 hS45=>?_)
   simp only [jh,B0,reduceIte,reduceEqDiff]
   refine z6 (us:=[.int .i64 x38.Client,.int .i64 x38.Object,.bool x38.Write,.int .i64 x38.Value,.int .i64 x38.Begin,
     .int .i64 x38.End]) rfl (cs':=[.int .i64 x38.Client,.int .i64 x38.Object,.bool x38.Write,.int .i64 x38.Value,.int .i64 x38.Begin,
     .int .i64 x38.End]) hS45 hW rfl rfl (nle rfl) rfl (fun h47 hS48=>?_)
   simp only [qa,B0,reduceIte,reduceEqDiff]
   refine ji hS48 hW (by simp only [B0,reduceIte,reduceEqDiff]) (fun h49 hS50=>?_)
   simp only [ja,qqv,qg,qe,f33,qd,qr,B0,reduceIte,reduceEqDiff]
   refine qj (v := .agg [.int .i64 x38.Client,.int .i64 x38.Object,.bool x38.Write,.int .i64 x38.Value,.int .i64 x38.Begin,.int .i64 x38.End]) rfl ?_
   obtain ⟨v51,hx52,hF53⟩:=qi hF40
   simp only [qo,B0,reduceIte,reduceEqDiff]
   refine zp hm1 (ql (qaz (ql qp (ql qp (ql wz (ql qp (ql qp (ql qp zf))))))) zf) (hf1 _ _
     (fun b hb=>decide_eq_true hb) x38 v51 hx52) ?_
   simp only [jc,qc,kt,qa,qs9,qx,B0,reduceIte,reduceEqDiff]
   refine qt (t:=(!v51)) (fun hc54=>?_) (fun hc54=>?_)
   ·rw [iteT hc54] at hF53
    simp only [qtg,qg,qe,f32,qd,f34,qr,B0,reduceIte,reduceEqDiff]
    refine qj (v := .agg [.int .i64 x38.Client,.int .i64 x38.Object,.bool x38.Write,.int .i64 x38.Value,.int .i64 x38.Begin,.int .i64 x38.End]) rfl ?_
    obtain ⟨x55,hx56,hF57⟩:=qi hF53
    simp only [je,B0,reduceIte,reduceEqDiff]
    refine qj (SlF.ia hv14 hb42 hx56) ?_
    simp only [jh,B0,reduceIte,reduceEqDiff]
    refine qbx (f:=qb) (x':=x38) (o:=0) hv14 hS50 hW hb42 hx56 (fun _=>rfl) rfl rfl (nle rfl) rfl (fun c60 h58 hv61 hS59=>?_)
    have hx62:=qa3 (x':=x38) hx56
    simp only [qa,qe,f34,qd,qv,qc,xl,qcr,f35,qk,B0,reduceIte,reduceEqDiff]
    have e63:=qh hF57
    exact hN24 _ _ _ e63.symm ⟨c60,f32,f33,rfl,rfl,hv61,hS59⟩
   rw [iteF hc54] at hF53
   simp only [q8,qcr,qe,f35,qd,qv,qc,xl,qa,qk,B0,reduceIte,reduceEqDiff]
   have e64:=qh hF53
   exact hN24 _ _ _ e64.symm ⟨c13,f32,f33,f34,rfl,hv14,hS50⟩
  rw [iteF hc37] at hF21
  simp only [u1,u7,qag,B0,reduceIte,reduceEqDiff]
  have e65:=qh hF21
  exact hK25 _ _ _ e65.symm ⟨c13,f32,f33,f34,f35,hv14,hS31⟩
 rintro ⟨s67,s68,s69⟩ fr72 h73 rfl ⟨c70,f75,f76,f77,f78,hv71,hS74⟩
 dsimp only [jnO] at hk20
 dsimp only at *
 unfold kf at hk20
 obtain ⟨l79,hx80,hF81⟩:=qi hk20
 simp only [qlk,qg,qe,f75,qd,f77,qa5,Option.map_some,Option.map_none,B0,reduceIte,reduceEqDiff]
 obtain ⟨w82,hu83⟩:=SlF.slc (ty:=55) (n1:=6) (f1:=qb) hv71 (qlt hx80) hS74
 refine qj hu83 ?_
 simp only [qwj,B0,reduceIte,reduceEqDiff]
 refine qos (f1:=qb) (z:=(Call.mk (0:Int) (0:Int) false (0:Int) (0:Int) (0:Int))) hv71 hu83 hx80 (fun _=>rfl) rfl hS74 hW
   (fun c84 h85 hv86 hS87=>?_)
 obtain ⟨l88,hx89,hF90⟩:=qi hF81
 simp only [qa,qn7,qg,qe,f75,qd,f77,qa5,Option.map_some,Option.map_none,B0,reduceIte,reduceEqDiff]
 obtain ⟨v91,he92,hv93⟩:=SlF.trunc (f1:=qb) hv86 hx89 (fun _=>rfl) hS87
 refine qj he92 ?_
 simp only [qd,qa,qs,B0,reduceIte,reduceEqDiff]
 have he:=qh hF90
 subst he
 simp only [q9,B0,reduceIte,reduceEqDiff]
 exact ⟨v91,c84,by first | trivial | rfl,hv93,hS87⟩
theorem qfm {W:Nat→Bool}{h:Heap} (hW:∀ b,
  (geL h.length) b→W b=true) (c_0:Call) (cap_0:Int) (r:Bool) (hF:some (ye c_0 cap_0)=some r) : Ret E W 46 [.agg [.int .i64 c_0.Client,
  .int .i64 c_0.Object,.bool c_0.Write,.int .i64 c_0.Value,.int .i64 c_0.Begin,.int .i64 c_0.End],
  .ref (cI cap_0) 0] h (fun v h'=>cut h.length h' E.sz false 9 v=some (.bool r)):=by
 refine Ret.of (fn:=x46) rfl (Run.of ?_)
 unfold ye at hF
 have zf0:qq [.agg [.int .i64 c_0.Client,.int .i64 c_0.Object,.bool c_0.Write,.int .i64 c_0.Value,.int .i64 c_0.Begin,.int .i64 c_0.End],
   .ref (cI cap_0) 0] 0 = .agg [.int .i64 c_0.Client,.int .i64 c_0.Object,.bool c_0.Write,.int .i64 c_0.Value,.int .i64 c_0.Begin,.int .i64 c_0.End]:=rfl
 have zf1:qq [.agg [.int .i64 c_0.Client,.int .i64 c_0.Object,.bool c_0.Write,.int .i64 c_0.Value,.int .i64 c_0.Begin,.int .i64 c_0.End],
   .ref (cI cap_0) 0] 1 = .ref (cI cap_0) 0:=rfl
 generalize qq [.agg [.int .i64 c_0.Client,.int .i64 c_0.Object,.bool c_0.Write,.int .i64 c_0.Value,.int .i64 c_0.Begin,.int .i64 c_0.End],
   .ref (cI cap_0) 0]=fr0 at zf0 zf1 ⊢
 have hS:Sep h (geL h.length) []:=Sep.nil h
 simp only [x46,qg,qe,x9,zf0,B0,reduceIte,reduceEqDiff]
 refine yq (cs:=[.int .i64 c_0.Client,.int .i64 c_0.Object,.bool c_0.Write,.int .i64 c_0.Value,.int .i64 c_0.Begin,
   .int .i64 c_0.End]) hS rfl rfl rfl (fun b1 h2 hS3=>?_)
 simp only [qd,qa,B0,reduceIte,reduceEqDiff]
 refine ji hS3 hW (by simp only [B0,reduceIte,reduceEqDiff]) (fun h5 hS6=>?_)
 simp only [ja,qrv,qg,qe,zb,qc,Nat.reduceAdd,Nat.zero_add,Nat.add_zero,zg,qr,B0,reduceIte,reduceEqDiff]
 refine qj (v := .int .i64 c_0.Object) rfl ?_
 simp only [zf1,qr,B0,reduceIte,reduceEqDiff]
 refine qj (v := .int .i64 cap_0) rfl ?_
 simp only [qv,qc,qey,qd,qa,qs,B0,reduceIte,reduceEqDiff]
 have he:=qh hF
 subst he
 simp only [q9,B0,reduceIte,reduceEqDiff]
 exact rfl
theorem qg1 {W:Nat→Bool}{h:Heap} (hW:∀ b,
  (geL h.length) b→W b=true) (k:Nat) (l_0:List Call) (object_1:Int) (r:(List Call) × Bool)
  (hF:qaw k l_0 object_1=some r) : Ret E W 14 [lst qb l_0,.int .i64 object_1] h (fun v h'=>∃ rv0 rc0,v = .tup [rv0,
  .bool r.2]∧SlF qb 6 55 rv0 r.1 rc0∧Sep h' (geL h.length) (rc0++([]))):=by
 refine Ret.of (fn:=x14) rfl (Run.of ?_)
 unfold qaw at hF
 have zf0:qq [lst qb l_0,.int .i64 object_1] 0=lst qb l_0:=rfl
 have zf1:qq [lst qb l_0,.int .i64 object_1] 1 = .int .i64 object_1:=rfl
 generalize qq [lst qb l_0,.int .i64 object_1]=fr0 at zf0 zf1 ⊢
 have hS:Sep h (geL h.length) []:=Sep.nil h
 simp only [x14,qg,qe,x9,zf1,B0,reduceIte,reduceEqDiff]
 refine yq (cs:=[.int .i64 object_1]) hS rfl rfl rfl (fun b1 h2 hS3=>?_)
 simp only [qd,qa,B0,reduceIte,reduceEqDiff]
 refine ji hS3 hW (by simp only [B0,reduceIte,reduceEqDiff]) (fun h5 hS6=>?_)
 obtain ⟨v7,hx8,hF9⟩:=qi hF
 simp only [ja,quu,qg,qe,zf0,qd,qo,B0,reduceIte,reduceEqDiff]
 refine zp rfl (ql zt zf) (xj (fun b hb=>decide_eq_true hb) l_0 v7 hx8) ?_
 simp only [jc,qc,kt,qd,B0,reduceIte,reduceEqDiff]
 refine zu 4 (fun fr' h'=>Sep h' (geL h.length) ([])∧fr' 13 = .bool ((!v7) ||
   (!(ze object_1 0 2)))∧fr' 0=lst qb l_0∧fr' 3 = .ref [.int .i64 object_1] 0) (fun Q10 hN11=>?_) ?_
 ·simp only [List.take_succ_cons,List.take_zero]
  simp only [qf (g:=9),B0,reduceIte,reduceEqDiff]
  refine qy (t:=(!v7)) (fun hg12=>?_) (fun hg12=>?_)
  ·simp only [hg12,qf (g:=9),z1,qn,qc,zj,qa,qk,B0,reduceIte,reduceEqDiff]
   exact hN11 _ _ ⟨hS6,by rw [orT hg12]; simp only [B0,reduceIte,reduceEqDiff],zf0,rfl⟩
  ·simp only [hg12,qf (g:=9),qw,qr,B0,reduceIte,reduceEqDiff]
   refine qj (v := .int .i64 object_1) rfl ?_
   simp only [hg12,qf (g:=9),qw,qo,B0,reduceIte,reduceEqDiff]
   refine zp rfl (ql qp (ql qp (ql qp zf))) (u4 (fun b hb=>decide_eq_true hb) object_1 0 2 _ rfl) ?_
   simp only [hg12,qf (g:=9),qw,jc,qc,kt,qn,zi,qa,qk,B0,reduceIte,reduceEqDiff]
   exact hN11 _ _ ⟨hS6,by rw [orF hg12]; simp only [B0,reduceIte,reduceEqDiff],zf0,rfl⟩
 rintro fr13 h17 ⟨hS18,f14,f15,f16⟩
 simp only [List.drop_succ_cons,List.drop_zero]
 simp only [qa,qsr,f14,qx,B0,reduceIte,reduceEqDiff]
 refine qt (t:=((!v7)||(!(ze object_1 0 2)))) (fun hc19=>?_) (fun hc19=>?_)
 ·rw [iteT hc19] at hF9
  simp only [qg,qe,qd,qa,qs,B0,reduceIte,reduceEqDiff]
  have he:=qh hF9
  subst he
  simp only [z7,B0,reduceIte,reduceEqDiff]
  exact ⟨.nil,[],by first | trivial | rfl,SlF.nil,(hS18:Sep _ (geL h.length) ([]))⟩
 rw [iteF hc19] at hF9
 simp only [q8,qr6,qg,qe,k8,evp,B0,reduceIte,reduceEqDiff]
 refine j8 (n:=6) (f:=qb) ([] : List Call) hS18 rfl rfl (fun v20 c21 h22 hv23 hS24=>?_)
 simp only [f15,qd,ur,B0,reduceIte,reduceEqDiff]
 obtain ⟨l26,hx27,hF28⟩:=qi hF9
 refine yx (f:=qb) hv23 hS24 hW (fun _=>rfl) (fun _=>rfl) (qf2 (fun _=>rfl)) hx27 (fun v29 c30 h31 hv32 hS33=>?_)
 obtain ⟨v35,hx36,hF37⟩:=qi hF28
 simp only [qfa,f16,qo,B0,reduceIte,reduceEqDiff]
 refine jz rfl (qcv hW k v29 c30 l26 hv32 (g1:=46) (caps1:=[.ref [.int .i64 object_1] 0]) rfl (fun a0=>some (ye a0 object_1))
   (fun W h hW a0 r hr=>qfm hW a0 object_1 r hr) v35 hx36 hS33) ?_
 rintro v38 h42 ⟨_,c39,rfl,hv40,hS43⟩
 simp only [qd,qa,qs,B0,reduceIte,reduceEqDiff]
 have he:=qh hF37
 subst he
 simp only [z7,B0,reduceIte,reduceEqDiff]
 exact ⟨v38,c39,by first | trivial | rfl,hv40,hS43⟩
theorem qdt {W:Nat→Bool}{h:Heap} (hW:∀ b,
  (geL h.length) b→W b=true) (order_0:List Int) {g1:Nat} {caps1:List XV} (hm1:E.mode g1=1) (may_1:Int→Int→Option Bool) (hf1:∀ (W:Nat→Bool) (h:Heap),
  (∀ b,h.length≤b→W b=true)→∀ a0 a1 r,may_1 a0 a1=some r→Ret E W g1 ([.int .i64 a0,
  .int .i64 a1]++caps1) h (fun v h'=>cut h.length h' E.sz false 9 v=some (.bool r))) (r:Bool) (hF:yv order_0 may_1=some r) : Ret E W 55 [lst cI order_0,
  .fn g1 caps1] h (fun v h'=>cut h.length h' E.sz false 9 v=some (.bool r)):=by
 refine Ret.of (fn:=x55) rfl (Run.of ?_)
 unfold yv at hF
 have zf0:qq [lst cI order_0,.fn g1 caps1] 0=lst cI order_0:=rfl
 have zf1:qq [lst cI order_0,.fn g1 caps1] 1 = .fn g1 caps1:=rfl
 generalize qq [lst cI order_0,.fn g1 caps1]=fr0 at zf0 zf1 ⊢
 have hS:Sep h (geL h.length) []:=Sep.nil h
 simp only [x55,qg,qe,qd,qa,qs3,zf0,zl,qc,zn,B0,reduceIte,reduceEqDiff]
 obtain ⟨oc3,hX5,hk6⟩:=jd hF
 simp only [qv6]
 refine jq (σ:=Unit) order_0 (fun i1 x2 _=>uy order_0 may_1 i1 x2 )
   (fun s fr' h'=>fr' 0=lst cI order_0∧fr' 1 = .fn g1 caps1∧fr' 9=lst cI order_0∧Sep h' (geL h.length) ([])) hX5 ⟨zf0,zf1,rfl,hS⟩ (by simp only [B0,reduceIte,
   reduceEqDiff]) (by simp only [B0,reduceIte,reduceEqDiff]) (fun _ _ _ h=>h) rfl rfl (fun _ _ _ _ h=>h) (fun _ _ _ _ h=>h) (fun _ _ _ _ h=>h) (by decide) ?_ ?_
 ·rintro i1 x2 _ fr15 h16 hx21 ⟨f18,f19,f20,hS17⟩ f22 f23 oc4 hF7 hr8 Q9 hN10 hB14 hK11 hR12 hE13
  unfold uy at hF7
  simp only [qus,qg,qe,f22,qd,f20,je,B0,reduceIte,reduceEqDiff]
  refine qj (v := .ref (cI x2) 0) (jp hx21 rfl) ?_
  simp only [qr,B0,reduceIte,reduceEqDiff]
  refine qj (v := .int .i64 x2) rfl ?_
  obtain ⟨l24,hx25,hF26⟩:=qi hF7
  simp only [qd,qa,qsz,qg,qe,f18,qa5,Option.map_some,Option.map_none,B0,reduceIte,reduceEqDiff]
  refine qj (qak hx25 (fun _=>rfl)) ?_
  simp only [zl,qc,zn,qd,qa,B0,reduceIte,reduceEqDiff]
  obtain ⟨oc29,hX31,hk32⟩:=jd hF26
  simp only [qtv]
  refine jq (σ:=Unit) l24 (fun i27 x28 _=>uz may_1 x2 i27 x28 )
    (fun s fr' h'=>fr' 0=lst cI order_0∧fr' 1 = .fn g1 caps1∧fr' 6 = .int .i64 x2∧fr' 9=lst cI order_0∧fr' 10 = .int .i64
    (List.length order_0:Int)∧fr' 11 = .int .i64 (i1:Int)∧fr' 18=lst cI l24∧Sep h' (geL h.length) ([])) hX31 ⟨f18,f19,rfl,f20,f23,f22,rfl,
    hS17⟩ (by simp only [B0,reduceIte,reduceEqDiff]) (by simp only [B0,reduceIte,
    reduceEqDiff]) (fun _ _ _ h=>h) rfl rfl (fun _ _ _ _ h=>h) (fun _ _ _ _ h=>h) (fun _ _ _ _ h=>h) (by decide) ?_ ?_
  ·rintro i27 x28 _ fr41 h42 hx51 ⟨f44,f45,f46,f47,f48,f49,f50,hS43⟩ f52 f53 oc30 hF33 hr34 Q35 hN36 hB40 hK37 hR38 hE39
   unfold uz at hF33
   simp only [qry,qg,qe,f50,f52,je,B0,reduceIte,reduceEqDiff]
   refine qj (v := .ref (cI x28) 0) (jp hx51 rfl) ?_
   simp only [qr,B0,reduceIte,reduceEqDiff]
   refine qj (v := .int .i64 x28) rfl ?_
   obtain ⟨v54,hx55,hF56⟩:=qi hF33
   simp only [qd,qa,qq1,qg,qe,f45,f46,qo,B0,reduceIte,reduceEqDiff]
   refine zp hm1 (ql qp (ql qp zf)) (hf1 _ _ (fun b hb=>decide_eq_true hb) x28 x2 v54 hx55) ?_
   simp only [jc,qc,kt,qa,qx,B0,reduceIte,reduceEqDiff]
   refine qt (t:=(!v54)) (fun hc57=>?_) (fun hc57=>?_)
   ·rw [iteT hc57] at hF56
    simp only [qg,qe,qd,qa,qs,B0,reduceIte,reduceEqDiff]
    have e58:=qh hF56
    subst e58
    have ho59:=hr34 _ rfl
    have hk60:=hk32
    rw [ho59] at hk60
    dsimp only [jnO] at hk60
    apply hR38
    have e61:=qh hk60
    subst e61
    have ho62:=hr8 _ rfl
    have hk63:=hk6
    rw [ho62] at hk63
    dsimp only [jnO] at hk63
    apply hR12
    have he:=qh hk63
    subst he
    simp only [q9,B0,reduceIte,reduceEqDiff]
    exact rfl
   rw [iteF hc57] at hF56
   simp only [q8,qk,B0,reduceIte,reduceEqDiff]
   have e64:=qh hF56
   exact hN36 _ _ _ e64.symm ⟨f44,f45,f46,f47,f48,f49,f50,hS43⟩ (f52) (f53)
  rintro _ fr66 h67 rfl ⟨f69,f70,f71,f72,f73,f74,f75,hS68⟩
  dsimp only [jnO] at hk32
  unfold qdd at hk32
  simp only [qk,B0,reduceIte,reduceEqDiff]
  have e76:=qh hk32
  exact hN10 _ _ _ e76.symm ⟨f69,f70,f72,hS68⟩ (f74) (f73)
 rintro _ fr79 h80 rfl ⟨f82,f83,f84,hS81⟩
 dsimp only [jnO] at hk6
 unfold qdc at hk6
 simp only [qg,qe,qd,qa,qs,B0,reduceIte,reduceEqDiff]
 have he:=qh hk6
 subst he
 simp only [q9,B0,reduceIte,reduceEqDiff]
 exact rfl
theorem qd2 {W:Nat→Bool}{h:Heap} (hW:∀ b,
  (geL h.length) b→W b=true) (l_0:List Call) (order_1:List Int) (r:Bool) (hF:yy l_0 order_1=some r) : Ret E W 58 [lst qb l_0,
  lst cI order_1] h (fun v h'=>cut h.length h' E.sz false 9 v=some (.bool r)):=by
 refine Ret.of (fn:=x58) rfl (Run.of ?_)
 unfold yy at hF
 have zf0:qq [lst qb l_0,lst cI order_1] 0=lst qb l_0:=rfl
 have zf1:qq [lst qb l_0,lst cI order_1] 1=lst cI order_1:=rfl
 generalize qq [lst qb l_0,lst cI order_1]=fr0 at zf0 zf1 ⊢
 have hS:Sep h (geL h.length) []:=Sep.nil h
 simp only [x58,qg,qe,qd,qa,ql9,run_build,evp,B0,reduceIte,reduceEqDiff]
 refine qj (v := .agg [.int .i64 0,.int .i64 0,.int .i64 0]) rfl ?_
 simp only [yp,B0,reduceIte,reduceEqDiff]
 refine ki hS (fun b1 h2 hS3=>?_)
 have hS5:Sep h2 (geL h.length) ([Blk1 b1 (List.map cI [(0:Int),(0:Int),(0:Int)]).flatten 81]++([])):=hS3
 simp only [jh,B0,reduceIte,reduceEqDiff]
 refine qi8 (cs':=[.int .i64 0,.int .i64 0,.int .i64 0]) hS5 hW rfl rfl (nle rfl) rfl (fun h6 hS7=>?_)
 have hS8:Sep h6 (geL h.length) ([Blk1 b1 (List.map cI [(0:Int),(0:Int),(0:Int)]).flatten 81]++([])):=hS7
 simp only [qa,qt6,qg,qe,zf1,qd,zl,qc,zn,B0,reduceIte,reduceEqDiff]
 obtain ⟨oc13,hX15,hk16⟩:=jd hF
 simp only [qwh]
 refine jq (σ:=(List Int)) order_1 (fun i11 x12 s65=>yf l_0 i11 x12 s65)
   (fun s fr' h'=>fr' 0=lst qb l_0∧fr' 5 = .ptr b1 0∧fr' 10=lst cI order_1∧Sep h' (geL h.length) ([Blk1 b1 (List.map cI s).flatten 81]++([]))) hX15 ⟨zf0,
   rfl,rfl,hS8⟩ (by simp only [B0,reduceIte,reduceEqDiff]) (by simp only [B0,reduceIte,
   reduceEqDiff]) (fun _ _ _ h=>h) rfl rfl (fun _ _ _ _ h=>h) (fun _ _ _ _ h=>h) (fun _ _ _ _ h=>h) (by decide) ?_ ?_
 ·rintro i11 x12 s10 fr25 h26 hx31 ⟨f28,f29,f30,hS27⟩ f32 f33 oc14 hF17 hr18 Q19 hN20 hB24 hK21 hR22 hE23
  unfold yf at hF17
  simp only [qvh,qg,qe,f30,f32,je,B0,reduceIte,reduceEqDiff]
  refine qj (v := .ref (cI x12) 0) (jp hx31 rfl) ?_
  simp only [qr,B0,reduceIte,reduceEqDiff]
  refine qj (v := .int .i64 x12) rfl ?_
  obtain ⟨x34,hx35,hF36⟩:=qi hF17
  simp only [qd,qa,qwb,qg,qe,f28,je,B0,reduceIte,reduceEqDiff]
  refine qj (v := .ref (qb x34) 0) (xx hx35 rfl) ?_
  simp only [qr,B0,reduceIte,reduceEqDiff]
  refine qj (v := .agg [.int .i64 x34.Client,.int .i64 x34.Object,.bool x34.Write,.int .i64 x34.Value,.int .i64 x34.Begin,.int .i64 x34.End]) rfl ?_
  simp only [yp,B0,reduceIte,reduceEqDiff]
  refine ki hS27 (fun b37 h38 hS39=>?_)
  simp only [jh,B0,reduceIte,reduceEqDiff]
  refine z6 (us:=[.int .i64 x34.Client,.int .i64 x34.Object,.bool x34.Write,.int .i64 x34.Value,.int .i64 x34.Begin,
    .int .i64 x34.End]) rfl (cs':=[.int .i64 x34.Client,.int .i64 x34.Object,.bool x34.Write,.int .i64 x34.Value,.int .i64 x34.Begin,
    .int .i64 x34.End]) hS39 hW rfl rfl (nle rfl) rfl (fun h41 hS42=>?_)
  simp only [qa,B0,reduceIte,reduceEqDiff]
  refine ji hS42 hW (by simp only [B0,reduceIte,reduceEqDiff]) (fun h43 hS44=>?_)
  simp only [ja,qqz,qg,qe,zb,qc,Nat.reduceAdd,Nat.zero_add,Nat.add_zero,zg,qr,B0,reduceIte,reduceEqDiff]
  refine qj (v := .bool x34.Write) rfl ?_
  simp only [qa,qu8,qx,B0,reduceIte,reduceEqDiff]
  refine qt (t:=x34.Write) (fun hc45=>?_) (fun hc45=>?_)
  ·rw [iteT hc45] at hF36
   simp only [qul,qe,zb,qc,Nat.reduceAdd,Nat.zero_add,Nat.add_zero,zg,qr,B0,reduceIte,reduceEqDiff]
   refine qj (v := .int .i64 x34.Object) rfl ?_
   simp only [zb,qc,Nat.reduceAdd,Nat.zero_add,Nat.add_zero,zg,qr,B0,reduceIte,reduceEqDiff]
   refine qj (v := .int .i64 x34.Value) rfl ?_
   obtain ⟨x46,hx47,hF48⟩:=qi hF36
   obtain ⟨hp49,hF50⟩:=qfh hF48
   simp only [f29,qw9,B0,reduceIte,reduceEqDiff]
   refine qpe (j5 hx47).1 hp49 ?_
   simp only [jh,B0,reduceIte,reduceEqDiff]
   refine qkh (f1:=cI) (x':=x34.Value) hS44 hW hx47 (fun _=>rfl) rfl rfl (fun h51 hS52=>?_)
   have hx53:=qa3 (x':=x34.Value) hx47
   simp only [qa,qk,B0,reduceIte,reduceEqDiff]
   have e54:=qh hF50
   exact hN20 _ _ _ e54.symm ⟨f28,f29,f30,hS52⟩ (f32) (f33)
  rw [iteF hc45] at hF36
  simp only [qv5,qg,yo,xu,zc,Nat.reduceAdd,Nat.zero_add,Nat.add_zero,zg,j0,B0,reduceIte,reduceEqDiff]
  refine zd (v := .int .i64 x34.Object) rfl ?_
  obtain ⟨x55,hx56,hF57⟩:=qi hF36
  obtain ⟨hp58,hF59⟩:=qfh hF57
  simp only [f29,qyd,B0,reduceIte,reduceEqDiff]
  refine zd (qxp (j5 hx56).1 hp58) ?_
  simp only [j0,B0,reduceIte,reduceEqDiff]
  refine zd (v := .int .i64 x55) ((qyf (f1:=cI) (Sep.bk _ _ _ hS44) hx56 (fun _=>rfl)).trans rfl) ?_
  simp only [xu,zc,Nat.reduceAdd,Nat.zero_add,Nat.add_zero,zg,j0,B0,reduceIte,reduceEqDiff]
  refine zd (v := .int .i64 x34.Value) rfl ?_
  simp only [qbf,zc,qey,jx,qx,B0,reduceIte,reduceEqDiff]
  refine qt (t:=(decide (x55≠x34.Value))) (fun hc60=>?_) (fun hc60=>?_)
  ·rw [iteT hc60] at hF59
   simp only [qg,qe,qd,qa,qs,B0,reduceIte,reduceEqDiff]
   have e61:=qh hF59
   subst e61
   have ho62:=hr18 _ rfl
   have hk63:=hk16
   rw [ho62] at hk63
   dsimp only [jnO] at hk63
   apply hR22
   have he:=qh hk63
   subst he
   simp only [q9,B0,reduceIte,reduceEqDiff]
   exact rfl
  rw [iteF hc60] at hF59
  simp only [q8,qk,B0,reduceIte,reduceEqDiff]
  have e64:=qh hF59
  exact hN20 _ _ _ e64.symm ⟨f28,f29,f30,hS44⟩ (f32) (f33)
 rintro s66 fr67 h68 rfl ⟨f70,f71,f72,hS69⟩
 dsimp only [jnO] at hk16
 unfold qdf at hk16
 simp only [qg,qe,qd,qa,qs,B0,reduceIte,reduceEqDiff]
 have he:=qh hk16
 subst he
 simp only [q9,B0,reduceIte,reduceEqDiff]
 exact rfl
theorem qeq {W:Nat→Bool}{h:Heap} (hW:∀ b,
  (geL h.length) b→W b=true) (s_0:List Int) (v_1:Int) (r:Int) (hF:wu s_0 v_1=some r) : Ret E W 74 [lst cI s_0,
  .int .i64 v_1] h (fun v h'=>cut h.length h' E.sz false 9 v=some (.int .i64 r)):=by
 refine Ret.of (fn:=x74) rfl (Run.of ?_)
 unfold wu at hF
 have zf0:qq [lst cI s_0,.int .i64 v_1] 0=lst cI s_0:=rfl
 have zf1:qq [lst cI s_0,.int .i64 v_1] 1 = .int .i64 v_1:=rfl
 generalize qq [lst cI s_0,.int .i64 v_1]=fr0 at zf0 zf1 ⊢
 have hS:Sep h (geL h.length) []:=Sep.nil h
 simp only [x74,qg,qe,qd,qa,qss,zf0,zl,qc,zn,B0,reduceIte,reduceEqDiff]
 obtain ⟨oc3,hX5,hk6⟩:=jd hF
 simp only [qup]
 refine jq (σ:=Unit) s_0 (fun i1 x2 _=>jt v_1 i1 x2 ) (fun s fr' h'=>fr' 0=lst cI s_0∧fr' 1 = .int .i64 v_1∧Sep h' (geL h.length)
   ([])) hX5 ⟨zf0,zf1,hS⟩ (by simp only [B0,reduceIte,reduceEqDiff]) (by simp only [B0,reduceIte,
   reduceEqDiff]) (fun _ _ _ h=>h) rfl rfl (fun _ _ _ _ h=>h) (fun _ _ _ _ h=>h) (fun _ _ _ _ h=>h) (by decide) ?_ ?_
 ·rintro i1 x2 _ fr15 h16 hx20 ⟨f18,f19,hS17⟩ f21 f22 oc4 hF7 hr8 Q9 hN10 hB14 hK11 hR12 hE13
  unfold jt at hF7
  simp only [qru,qg,qe,f21,qd,qa,qtc,f19,f18,je,B0,reduceIte,reduceEqDiff]
  refine qj (v := .ref (cI x2) 0) (jp hx20 rfl) ?_
  simp only [qr,B0,reduceIte,reduceEqDiff]
  refine qj (v := .int .i64 x2) rfl ?_
  simp only [qv,qc,qb2,qa,qsp,qx,B0,reduceIte,reduceEqDiff]
  refine qt (t:=(decide (v_1=x2))) (fun hc23=>?_) (fun hc23=>?_)
  ·rw [iteT hc23] at hF7
   simp only [qg,qe,qd,qa,qs,B0,reduceIte,reduceEqDiff]
   have e24:=qh hF7
   subst e24
   have ho25:=hr8 _ rfl
   have hk26:=hk6
   rw [ho25] at hk26
   dsimp only [jnO] at hk26
   apply hR12
   have he:=qh hk26
   subst he
   simp only [q9,B0,reduceIte,reduceEqDiff]
   exact rfl
  rw [iteF hc23] at hF7
  simp only [q8,qk,B0,reduceIte,reduceEqDiff]
  have e27:=qh hF7
  exact hN10 _ _ _ e27.symm ⟨f18,f19,hS17⟩ (f21) (f22)
 rintro _ fr29 h30 rfl ⟨f32,f33,hS31⟩
 dsimp only [jnO] at hk6
 unfold qbq at hk6
 simp only [qg,qe,qd,qa,qs,B0,reduceIte,reduceEqDiff]
 have he:=qh hk6
 subst he
 simp only [q9,B0,reduceIte,reduceEqDiff]
 exact rfl
theorem qdx {W:Nat→Bool}{h:Heap} (hW:∀ b,
  (geL h.length) b→W b=true) (s_0:List Int) (v_1:Int) (r:Bool) (hF:yj s_0 v_1=some r) : Ret E W 68 [lst cI s_0,
  .int .i64 v_1] h (fun v h'=>cut h.length h' E.sz false 9 v=some (.bool r)):=by
 refine Ret.of (fn:=x68) rfl (Run.of ?_)
 unfold yj at hF
 have zf0:qq [lst cI s_0,.int .i64 v_1] 0=lst cI s_0:=rfl
 have zf1:qq [lst cI s_0,.int .i64 v_1] 1 = .int .i64 v_1:=rfl
 generalize qq [lst cI s_0,.int .i64 v_1]=fr0 at zf0 zf1 ⊢
 have hS:Sep h (geL h.length) []:=Sep.nil h
 obtain ⟨v1,hx2,hF3⟩:=qi hF
 simp only [x68,qg,qe,qd,qa,qr3,zf0,zf1,qo,B0,reduceIte,reduceEqDiff]
 refine zp rfl (ql zt (ql qp zf)) (qeq (fun b hb=>decide_eq_true hb) s_0 v_1 v1 hx2) ?_
 simp only [qv,qc,qhm,qd,qa,qs,B0,reduceIte,reduceEqDiff]
 have he:=qh hF3
 subst he
 simp only [q9,B0,reduceIte,reduceEqDiff]
 exact rfl
end Go.Proofs.Ytddkoiapboeemaa.X
