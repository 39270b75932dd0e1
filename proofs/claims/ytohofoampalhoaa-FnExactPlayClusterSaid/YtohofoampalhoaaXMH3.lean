/- The functions' code comes to what the plain functions say (3). -/
import Derived.Test.YtohofoampalhoaaXMH2
open Go.IntKind renaming wrap→a0a
open List renaming drop_succ_cons→t9,drop_zero→a0c,length→t6,set→a1u,take_succ_cons→t8,take_zero→a0d
open Nat renaming add_zero→t5,reduceAdd→s5,reduceEqDiff→a9,zero_add→s9
open Go.Proofs.Ytohofoampalhoaa.X.Sep renaming bk→a0r,dc→a0s,m1→a0l,m2→a0k,m3→a0e,m4→a0i,m5→a03,m6→a0v,m7→a0j,m8→t7,ni3→a1p
open Go.Proofs.Ytohofoampalhoaa.X.SlF renaming ia→a2u,isrow→a13,one→a0g,snap→a06
open Go.Proofs.Ytohofoampalhoaa.X.SlG renaming cls0→a1x,one→a4h,toN→a1s
open Go.Proofs.Ytohofoampalhoaa.X.SlN renaming one→a10
set_option linter.unusedVariables false
set_option linter.unusedSimpArgs false
set_option maxRecDepth 100000
namespace Go.Proofs.Ytohofoampalhoaa.X
open Go
theorem qnu {W:Nat→Bool}{h:Heap}{lo:Nat→Prop}{S0:List Obj} (hW:∀ b,
  lo b→W b=true) (k:Nat) (f0:Cluster) (d9:XV) (i4:List Obj) (i8:SlF cI 1 3 d9 f0.Truth.InStep i4) (e8:XV) (l7:List Obj)
  (l6:SlN Node.R 6 68 e8 f0.Nodes l7) (f4:XV) (i5:List Obj) (l5:SlF qm 2 92 f4 f0.Acked i5) (d8:ClusterStep) (r:Cluster × Bool)
  (hF:uu k f0 d8=some r) (hS:Sep h lo (i4++(l7++(i5++(S0))))) : Ret E W 63 [.agg [.int .i64 f0.Truth.Epoch,.int .i64 f0.Truth.Leader,d9,
  e8,f4],.agg [.int .i64 d8.Kind,.int .i64 d8.K,.int .i64 d8.To,.int .i64 d8.N]] h (fun v h'=>∃ n9 l9 m0 o8 n7,
  v = .tup [.agg [.int .i64 r.1.Truth.Epoch,.int .i64 r.1.Truth.Leader,n9,e8,o8],
  .bool r.2]∧SlF cI 1 3 n9 r.1.Truth.InStep l9∧SlN Node.R 6 68 e8 r.1.Nodes m0∧SlF qm 2 92 o8 r.1.Acked n7∧Sep h' lo (l9++(m0 ++
  (n7++(S0))))):=by
 refine Ret.of (fn:=x63) rfl (Run.of ?_)
 unfold uu at hF
 have zf0:zb [.agg [.int .i64 f0.Truth.Epoch,.int .i64 f0.Truth.Leader,d9,e8,f4],.agg [.int .i64 d8.Kind,.int .i64 d8.K,.int .i64 d8.To,
   .int .i64 d8.N]] 0 = .agg [.int .i64 f0.Truth.Epoch,.int .i64 f0.Truth.Leader,d9,e8,f4]:=rfl
 have zf1:zb [.agg [.int .i64 f0.Truth.Epoch,.int .i64 f0.Truth.Leader,d9,e8,f4],.agg [.int .i64 d8.Kind,.int .i64 d8.K,.int .i64 d8.To,
   .int .i64 d8.N]] 1 = .agg [.int .i64 d8.Kind,.int .i64 d8.K,.int .i64 d8.To,.int .i64 d8.N]:=rfl
 generalize zb [.agg [.int .i64 f0.Truth.Epoch,.int .i64 f0.Truth.Leader,d9,e8,f4],.agg [.int .i64 d8.Kind,.int .i64 d8.K,.int .i64 d8.To,
   .int .i64 d8.N]]=fr0 at zf0 zf1 ⊢
 simp only [x63,qe,qc,j7,zf0,B0,reduceIte,a9]
 refine jm (cs:=[.int .i64 f0.Truth.Epoch,.int .i64 f0.Truth.Leader,d9,e8,
   f4]) hS rfl rfl (qj rfl (qj rfl (qj (a0g i8) (qj (a10 l6) (qj (a0g l5) zq))))) (fun b1 h2 hS3=>?_)
 simp only [j7,zf1,B0,reduceIte,a9]
 refine jm (cs:=[.int .i64 d8.Kind,.int .i64 d8.K,.int .i64 d8.To,.int .i64 d8.N]) hS3 rfl rfl rfl (fun b5 h6 hS7=>?_)
 simp only [kc,B0,reduceIte,a9]
 refine jp hS7 (fun b9 h10 hS11=>?_)
 simp only [qd,qa,B0,reduceIte,a9]
 refine jc (a0l hS11) hW (by simp only [B0,reduceIte,a9]) (fun h13 hS14=>?_)
 simp only [jd,qvv,qe,qc,qq,qb,s5,s9,t5,zd,qn,B0,reduceIte,a9]
 refine qg (v:=e8) ((jt (a0r _ _ _ (a0l hS14))).trans rfl) ?_
 simp only [zy,qb,SlN.len l6,qd,qa,qvg,qe,qc,qq,s5,s9,t5,qr,qn,B0,reduceIte,
   a9]
 refine qg (v := .int .i64 d8.K) rfl ?_
 simp only [qv,qb,k6,qd,B0,reduceIte,a9]
 refine jj 5 (fun fr' h'=>Sep h' lo ([Blk1 b1 [.int .i64 f0.Truth.Epoch,.int .i64 f0.Truth.Leader,d9,e8,f4] 28]++([Blk1 b9 [.int .i64 0,.int .i64 0,.nil,
   .nil,.nil] 28]++(i4++(l7++(i5++(S0))))))∧fr' 22 = .bool ((decide (d8.K<0))||(decide
   ((t6 f0.Nodes:Int)≤d8.K)))∧fr' 2 = .ptr b1 0∧fr' 3 = .ref [.int .i64 d8.Kind,.int .i64 d8.K,.int .i64 d8.To,
   .int .i64 d8.N] 0∧fr' 4 = .ptr b9 0∧fr' 6 = .int .i64 (t6 f0.Nodes:Int)) (fun Q15 hN16=>?_) ?_
 ·simp only [t8,a0d]
  simp only [qf (g:=17),B0,reduceIte,a9]
  refine zj (t:=(decide (d8.K<0))) (fun hg17=>?_) (fun hg17=>?_)
  ·simp only [hg17,qf (g:=17),jr,qx,qb,zo,qa,qo,B0,reduceIte,a9]
   exact hN16 _ _ ⟨(a0i (a0e (a0i (a0i (a0i hS14))))),by rw [orT hg17]; simp only [B0,reduceIte,a9],rfl,rfl,rfl,rfl⟩
  ·simp only [hg17,qf (g:=17),q8,qq,qb,s5,s9,t5,qr,qn,B0,reduceIte,a9]
   refine qg (v := .int .i64 d8.K) rfl ?_
   simp only [hg17,qf (g:=17),q8,qd,qv,qb,qfg,qx,zn,qa,qo,B0,reduceIte,a9]
   exact hN16 _ _ ⟨(a0i (a0e (a0i (a0i (a0i hS14))))),by rw [orF hg17]; simp only [B0,reduceIte,a9],rfl,rfl,rfl,rfl⟩
 rintro fr18 h24 ⟨hS25,f19,f20,f21,f22,f23⟩
 simp only [t9,a0c]
 simp only [f19,qd,B0,reduceIte,a9]
 refine jj 4 (fun fr' h'=>Sep h' lo ([Blk1 b1 [.int .i64 f0.Truth.Epoch,.int .i64 f0.Truth.Leader,d9,e8,f4] 28]++([Blk1 b9 [.int .i64 0,.int .i64 0,.nil,
   .nil,.nil] 28]++(i4++(l7++(i5++(S0))))))∧fr' 27 = .bool (((decide (d8.K<0))||(decide ((t6 f0.Nodes:Int)≤d8.K)))||(decide
   (d8.To<0)))∧fr' 2 = .ptr b1 0∧fr' 3 = .ref [.int .i64 d8.Kind,.int .i64 d8.K,.int .i64 d8.To,
   .int .i64 d8.N] 0∧fr' 4 = .ptr b9 0∧fr' 6 = .int .i64 (t6 f0.Nodes:Int)) (fun Q26 hN27=>?_) ?_
 ·simp only [t8,a0d]
  simp only [qf (g:=23),B0,reduceIte,a9]
  refine zj (t:=((decide (d8.K<0))||(decide ((t6 f0.Nodes:Int)≤d8.K)))) (fun hg28=>?_) (fun hg28=>?_)
  ·simp only [hg28,qf (g:=23),jr,qx,qb,zo,qa,qo,B0,reduceIte,a9]
   exact hN27 _ _ ⟨(a0i (a0i (a0i (a0i (a0i hS25))))),by rw [orT hg28]; simp only [B0,reduceIte,a9],f20,f21,f22,f23⟩
  ·simp only [hg28,qf (g:=23),q8,f21,qq,qb,s5,s9,t5,qr,qn,B0,reduceIte,a9]
   refine qg (v := .int .i64 d8.To) rfl ?_
   simp only [hg28,qf (g:=23),q8,qv,qb,k6,qx,zn,qa,qo,B0,reduceIte,a9]
   exact hN27 _ _ ⟨(a0i (a0i (a0i (a0i (a0i hS25))))),by rw [orF hg28]; simp only [B0,reduceIte,a9],f20,f21,f22,f23⟩
 rintro fr29 h35 ⟨hS36,f30,f31,f32,f33,f34⟩
 simp only [t9,a0c]
 simp only [f30,qd,B0,reduceIte,a9]
 refine jj 5 (fun fr' h'=>Sep h' lo ([Blk1 b1 [.int .i64 f0.Truth.Epoch,.int .i64 f0.Truth.Leader,d9,e8,f4] 28]++([Blk1 b9 [.int .i64 0,.int .i64 0,.nil,
   .nil,.nil] 28]++(i4++(l7++(i5++(S0))))))∧fr' 33 = .bool ((((decide (d8.K<0))||(decide ((t6 f0.Nodes:Int)≤d8.K)))||(decide
   (d8.To<0)))||(decide ((t6 f0.Nodes:Int)≤d8.To)))∧fr' 2 = .ptr b1 0∧fr' 3 = .ref [.int .i64 d8.Kind,.int .i64 d8.K,.int .i64 d8.To,
   .int .i64 d8.N] 0∧fr' 4 = .ptr b9 0) (fun Q37 hN38=>?_) ?_
 ·simp only [t8,a0d]
  simp only [qf (g:=28),B0,reduceIte,a9]
  refine zj (t:=(((decide (d8.K<0))||(decide ((t6 f0.Nodes:Int)≤d8.K)))||(decide (d8.To<0)))) (fun hg39=>?_) (fun hg39=>?_)
  ·simp only [hg39,qf (g:=28),jr,qx,qb,zo,qa,qo,B0,reduceIte,a9]
   exact hN38 _ _ ⟨(a0i (a0i (a0i (a0i (a0i hS36))))),by rw [orT hg39]; simp only [B0,reduceIte,a9],f31,f32,f33⟩
  ·simp only [hg39,qf (g:=28),q8,f32,qq,qb,s5,s9,t5,qr,qn,B0,reduceIte,a9]
   refine qg (v := .int .i64 d8.To) rfl ?_
   simp only [hg39,qf (g:=28),q8,f34,qd,qv,qb,qfg,qx,zn,qa,qo,B0,reduceIte,a9]
   exact hN38 _ _ ⟨(a0i (a0i (a0i (a0i (a0i hS36))))),by rw [orF hg39]; simp only [B0,reduceIte,a9],f31,f32,f33⟩
 rintro fr40 h45 ⟨hS46,f41,f42,f43,f44⟩
 simp only [t9,a0c]
 simp only [f41,qd,B0,reduceIte,a9]
 refine jj 14 (fun fr' h'=>Sep h' lo ([Blk1 b1 [.int .i64 f0.Truth.Epoch,.int .i64 f0.Truth.Leader,d9,e8,f4] 28]++([Blk1 b9 [.int .i64 0,.int .i64 0,.nil,
   .nil,.nil] 28]++(i4++(l7++(i5++(S0))))))∧fr' 48 = .bool (((((decide (d8.K<0))||(decide ((t6 f0.Nodes:Int)≤d8.K)))||(decide
   (d8.To<0)))||(decide ((t6 f0.Nodes:Int)≤d8.To)))||(((decide (d8.Kind≠3))&&(decide (d8.Kind≠4)))&&(decide
   (d8.N≠0))))∧fr' 2 = .ptr b1 0∧fr' 3 = .ref [.int .i64 d8.Kind,.int .i64 d8.K,.int .i64 d8.To,.int .i64 d8.N] 0∧fr' 4 = .ptr b9 0) (fun Q47 hN48=>?_) ?_
 ·simp only [t8,a0d]
  simp only [qf (g:=34),B0,reduceIte,a9]
  refine zj (t:=((((decide (d8.K<0))||(decide ((t6 f0.Nodes:Int)≤d8.K)))||(decide (d8.To<0)))||(decide
    ((t6 f0.Nodes:Int)≤d8.To)))) (fun hg49=>?_) (fun hg49=>?_)
  ·simp only [hg49,qf (g:=34),jr,qf (g:=38),qbp,qf (g:=43),qx,qb,zo,qa,qo,B0,reduceIte,
    a9]
   exact hN48 _ _ ⟨(a0i (a0i (a0i (a0i (a0i hS46))))),by rw [orT hg49]; simp only [B0,reduceIte,a9],f42,f43,f44⟩
  ·simp only [hg49,qf (g:=34),q8,f43,qq,qb,s5,s9,t5,qr,qn,B0,reduceIte,a9]
   refine qg (v := .int .i64 d8.Kind) rfl ?_
   simp only [hg49,qf (g:=34),q8,qv,qb,ya,qd,B0,reduceIte,a9]
   refine jj 4 (fun fr' h'=>Sep h' lo ([Blk1 b1 [.int .i64 f0.Truth.Epoch,.int .i64 f0.Truth.Leader,d9,e8,f4] 28]++([Blk1 b9 [.int .i64 0,.int .i64 0,
     .nil,.nil,.nil] 28]++(i4++(l7++(i5++(S0))))))∧fr' 42 = .bool ((decide (d8.Kind≠3))&&(decide
     (d8.Kind≠4)))∧fr' 2 = .ptr b1 0∧fr' 3 = .ref [.int .i64 d8.Kind,.int .i64 d8.K,.int .i64 d8.To,
     .int .i64 d8.N] 0∧fr' 4 = .ptr b9 0∧fr' 34 = .bool ((((decide (d8.K<0))||(decide ((t6 f0.Nodes:Int)≤d8.K)))||(decide (d8.To<0))) ||
     (decide ((t6 f0.Nodes:Int)≤d8.To)))) (fun Q50 hN51=>?_) ?_
   ·simp only [t8,a0d]
    simp only [qf (g:=38),B0,reduceIte,a9]
    refine zj (t:=(decide (d8.Kind≠3))) (fun hg52=>?_) (fun hg52=>?_)
    ·simp only [hg52,qf (g:=38),zl,f43,qq,qb,s5,s9,t5,qr,qn,B0,reduceIte,a9]
     refine qg (v := .int .i64 d8.Kind) rfl ?_
     simp only [hg52,qf (g:=38),zl,qv,qb,ya,hg49,qf (g:=34),q8,qx,zo,qa,qo,B0,
       reduceIte,a9]
     exact hN51 _ _ ⟨(a0i (a0i (a0i (a0i (a0i hS46))))),by rw [yk hg52]; simp only [B0,reduceIte,a9],f42,f43,f44,by simp only [hg49,B0,
       reduceIte,a9]⟩
    ·simp only [hg52,qf (g:=38),jh,hg49,qf (g:=34),q8,qx,qb,zn,qa,qo,B0,reduceIte,a9]
     exact hN51 _ _ ⟨(a0i (a0i (a0i (a0i (a0i hS46))))),by rw [yj hg52]; simp only [B0,reduceIte,a9],f42,f43,f44,by simp only [hg49,B0,
       reduceIte,a9]⟩
   rintro fr53 h59 ⟨hS60,f54,f55,f56,f57,f58⟩
   simp only [t9,a0c]
   simp only [f58,hg49,qf (g:=34),q8,f54,qd,B0,reduceIte,a9]
   refine jj 4 (fun fr' h'=>Sep h' lo ([Blk1 b1 [.int .i64 f0.Truth.Epoch,.int .i64 f0.Truth.Leader,d9,e8,f4] 28]++([Blk1 b9 [.int .i64 0,.int .i64 0,
     .nil,.nil,.nil] 28]++(i4++(l7++(i5++(S0))))))∧fr' 47 = .bool (((decide (d8.Kind≠3))&&(decide (d8.Kind≠4)))&&(decide
     (d8.N≠0)))∧fr' 2 = .ptr b1 0∧fr' 3 = .ref [.int .i64 d8.Kind,.int .i64 d8.K,.int .i64 d8.To,
     .int .i64 d8.N] 0∧fr' 4 = .ptr b9 0∧fr' 34 = .bool ((((decide (d8.K<0))||(decide ((t6 f0.Nodes:Int)≤d8.K)))||(decide (d8.To<0))) ||
     (decide ((t6 f0.Nodes:Int)≤d8.To)))) (fun Q61 hN62=>?_) ?_
   ·simp only [t8,a0d]
    simp only [qf (g:=43),B0,reduceIte,a9]
    refine zj (t:=((decide (d8.Kind≠3))&&(decide (d8.Kind≠4)))) (fun hg63=>?_) (fun hg63=>?_)
    ·simp only [hg63,qf (g:=43),zl,f56,qq,qb,s5,s9,t5,qr,qn,B0,reduceIte,a9]
     refine qg (v := .int .i64 d8.N) rfl ?_
     simp only [hg63,qf (g:=43),zl,qv,qb,ya,f58,hg49,qf (g:=34),q8,qx,zo,qa,qo,B0,
       reduceIte,a9]
     exact hN62 _ _ ⟨(a0i (a0i (a0i (a0i (a0i hS60))))),by rw [yk hg63]; simp only [B0,reduceIte,a9],f55,f56,f57,by simp only [f58,hg49,
       B0,reduceIte,a9]⟩
    ·simp only [hg63,qf (g:=43),jh,f58,hg49,qf (g:=34),q8,qx,qb,zn,qa,qo,B0,reduceIte,
      a9]
     exact hN62 _ _ ⟨(a0i (a0i (a0i (a0i (a0i hS60))))),by rw [yj hg63]; simp only [B0,reduceIte,a9],f55,f56,f57,by simp only [f58,hg49,
       B0,reduceIte,a9]⟩
   rintro fr64 h70 ⟨hS71,f65,f66,f67,f68,f69⟩
   simp only [t9,a0c]
   simp only [f69,hg49,qx,qb,zn,f65,qa,qo,B0,reduceIte,a9]
   exact hN48 _ _ ⟨(a0i (a0i (a0i (a0i (a0i hS71))))),by rw [orF hg49]; simp only [B0,reduceIte,a9],f66,f67,f68⟩
 rintro fr72 h77 ⟨hS78,f73,f74,f75,f76⟩
 simp only [t9,a0c]
 simp only [f73,qd,B0,reduceIte,a9]
 refine jj 10 (fun fr' h'=>Sep h' lo ([Blk1 b1 [.int .i64 f0.Truth.Epoch,.int .i64 f0.Truth.Leader,d9,e8,f4] 28]++([Blk1 b9 [.int .i64 0,.int .i64 0,.nil,
   .nil,.nil] 28]++(i4++(l7++(i5++(S0))))))∧fr' 59 = .bool ((((((decide (d8.K<0))||(decide ((t6 f0.Nodes:Int)≤d8.K)))||(decide
   (d8.To<0)))||(decide ((t6 f0.Nodes:Int)≤d8.To)))||(((decide (d8.Kind≠3))&&(decide (d8.Kind≠4)))&&(decide (d8.N≠0)))) ||
   ((!(kt d8.Kind 4 6))&&(decide (d8.To≠0))))∧fr' 2 = .ptr b1 0∧fr' 3 = .ref [.int .i64 d8.Kind,.int .i64 d8.K,.int .i64 d8.To,
   .int .i64 d8.N] 0∧fr' 4 = .ptr b9 0) (fun Q79 hN80=>?_) ?_
 ·simp only [t8,a0d]
  simp only [qf (g:=49),B0,reduceIte,a9]
  refine zj (t:=(((((decide (d8.K<0))||(decide ((t6 f0.Nodes:Int)≤d8.K)))||(decide (d8.To<0)))||(decide
    ((t6 f0.Nodes:Int)≤d8.To)))||(((decide (d8.Kind≠3))&&(decide (d8.Kind≠4)))&&(decide (d8.N≠0))))) (fun hg81=>?_) (fun hg81=>?_)
  ·simp only [hg81,qf (g:=49),jr,qf (g:=54),qbp,qx,qb,zo,qa,qo,B0,reduceIte,a9]
   exact hN80 _ _ ⟨(a0i (a0i (a0i (a0i (a0i hS78))))),by rw [orT hg81]; simp only [B0,reduceIte,a9],f74,f75,f76⟩
  ·simp only [hg81,qf (g:=49),q8,f75,qq,qb,s5,s9,t5,qr,qn,B0,reduceIte,a9]
   refine qg (v := .int .i64 d8.Kind) rfl ?_
   simp only [hg81,qf (g:=49),q8,zi,B0,reduceIte,a9]
   refine ju rfl (ql qs (ql qs (ql qs zh))) (qft (fun b hb=>decide_eq_true hb) d8.Kind 4 6 _ rfl) ?_
   simp only [hg81,qf (g:=49),q8,kh,qb,kz,qd,B0,reduceIte,a9]
   refine jj 4 (fun fr' h'=>Sep h' lo ([Blk1 b1 [.int .i64 f0.Truth.Epoch,.int .i64 f0.Truth.Leader,d9,e8,f4] 28]++([Blk1 b9 [.int .i64 0,.int .i64 0,
     .nil,.nil,.nil] 28]++(i4++(l7++(i5++(S0))))))∧fr' 58 = .bool ((!(kt d8.Kind 4 6))&&(decide
     (d8.To≠0)))∧fr' 2 = .ptr b1 0∧fr' 3 = .ref [.int .i64 d8.Kind,.int .i64 d8.K,.int .i64 d8.To,
     .int .i64 d8.N] 0∧fr' 4 = .ptr b9 0∧fr' 49 = .bool (((((decide (d8.K<0))||(decide ((t6 f0.Nodes:Int)≤d8.K)))||(decide (d8.To<0))) ||
     (decide ((t6 f0.Nodes:Int)≤d8.To)))||(((decide (d8.Kind≠3))&&(decide (d8.Kind≠4)))&&(decide (d8.N≠0))))) (fun Q82 hN83=>?_) ?_
   ·simp only [t8,a0d]
    simp only [qf (g:=54),B0,reduceIte,a9]
    refine zj (t:=(!(kt d8.Kind 4 6))) (fun hg84=>?_) (fun hg84=>?_)
    ·simp only [hg84,qf (g:=54),zl,f75,qq,qb,s5,s9,t5,qr,qn,B0,reduceIte,a9]
     refine qg (v := .int .i64 d8.To) rfl ?_
     simp only [hg84,qf (g:=54),zl,qv,qb,ya,hg81,qf (g:=49),q8,qx,zo,qa,qo,B0,
       reduceIte,a9]
     exact hN83 _ _ ⟨(a0i (a0i (a0i (a0i (a0i hS78))))),by rw [yk hg84]; simp only [B0,reduceIte,a9],f74,f75,f76,by simp only [hg81,B0,
       reduceIte,a9]⟩
    ·simp only [hg84,qf (g:=54),jh,hg81,qf (g:=49),q8,qx,qb,zn,qa,qo,B0,reduceIte,a9]
     exact hN83 _ _ ⟨(a0i (a0i (a0i (a0i (a0i hS78))))),by rw [yj hg84]; simp only [B0,reduceIte,a9],f74,f75,f76,by simp only [hg81,B0,
       reduceIte,a9]⟩
   rintro fr85 h91 ⟨hS92,f86,f87,f88,f89,f90⟩
   simp only [t9,a0c]
   simp only [f90,hg81,qx,qb,zn,f86,qa,qo,B0,reduceIte,a9]
   exact hN80 _ _ ⟨(a0i (a0i (a0i (a0i (a0i hS92))))),by rw [orF hg81]; simp only [B0,reduceIte,a9],f87,f88,f89⟩
 rintro fr93 h98 ⟨hS99,f94,f95,f96,f97⟩
 simp only [t9,a0c]
 simp only [qa,q18,f94,qy,B0,reduceIte,a9]
 refine qu (t:=((((((decide (d8.K<0))||(decide ((t6 f0.Nodes:Int)≤d8.K)))||(decide (d8.To<0)))||(decide
   ((t6 f0.Nodes:Int)≤d8.To)))||(((decide (d8.Kind≠3))&&(decide (d8.Kind≠4)))&&(decide (d8.N≠0))))||((!(kt d8.Kind 4 6))&&(decide
   (d8.To≠0))))) (fun hc100=>?_) (fun hc100=>?_)
 ·rw [iteT hc100] at hF
  simp only [qe,qc,f95,qn,B0,reduceIte,a9]
  refine qg (v := .agg [.int .i64 f0.Truth.Epoch,.int .i64 f0.Truth.Leader,d9,e8,f4]) ((zr (a0r _ _ _ hS99)).trans rfl) ?_
  simp only [f97,zp,B0,reduceIte,a9]
  refine zm (us:=[.int .i64 f0.Truth.Epoch,.int .i64 f0.Truth.Leader,d9,e8,f4]) rfl (cs':=[.int .i64 f0.Truth.Epoch,.int .i64 f0.Truth.Leader,
    d9,e8,f4]) (a0l hS99) hW rfl (qj rfl (qj rfl (qj (a0g i8) (qj (a10 l6) (qj (a0g l5) zq))))) (nle rfl) rfl
    (fun h101 hS102=>?_)
  simp only [qd,qa,qw,B0,reduceIte,a9]
  have he:=qh hF
  subst he
  refine jv (ql (j6 (bb:=b9) (oo:=0) (v := .agg [.int .i64 f0.Truth.Epoch,.int .i64 f0.Truth.Leader,d9,e8,
    f4]) (f97) ((zr (a0r _ _ _ hS102)).trans rfl)) (ql (k8 (v := .bool false) (rfl)) zh)) ?_
  exact ⟨d9,i4,l7,f4,i5,by first | trivial | rfl,i8,l6,l5,(a0k (a0k (a0k (a0s ((a0s (hS102)))))))⟩
 rw [iteF hc100] at hF
 simp only [zf,qwv,qe,qc,f95,qq,qb,s5,s9,t5,zd,qn,B0,reduceIte,a9]
 refine qg (v:=e8) ((jt (a0r _ _ _ hS99)).trans rfl) ?_
 simp only [f96,qq,qb,s5,s9,t5,qr,qn,B0,reduceIte,a9]
 refine qg (v := .int .i64 d8.K) rfl ?_
 obtain ⟨zg,hx104,hF105⟩:=qi hF
 simp only [ji,B0,reduceIte,a9]
 obtain ⟨b106,hb107⟩:=SlN.isrow l6 (ka hx104)
 refine qg (SlN.ia l6 hb107 hx104) ?_
 obtain ⟨c108,cs109,os110,hv111,hR112,hS113⟩:=SlG.opn (SlN.toG l6 hb107 Node.RO.len) hx104 z7 Node.RO.len (a0e hS99)
 obtain ⟨v115,c116,v119,c120,v123,c124,hv117,hv121,hv125,rfl,rfl⟩:=hR112
 have hS114:=Sep.no3 hS113
 simp only [qn,B0,reduceIte,a9]
 refine qg (v := .agg [.int .i64 zg.View.Epoch,.int .i64 zg.View.Leader,v115,v119,v123,
   .int .i64 zg.Told]) ((SlG.lds (o:=0) hv111 rfl hx104 hS114 (nle rfl)).trans rfl) ?_
 simp only [kc,B0,reduceIte,a9]
 refine jp hS114 (fun b127 h128 hS129=>?_)
 simp only [zp,B0,reduceIte,a9]
 refine zm (us:=[.int .i64 zg.View.Epoch,.int .i64 zg.View.Leader,v115,v119,v123,.int .i64 zg.Told]) rfl (cs':=[.int .i64 zg.View.Epoch,
   .int .i64 zg.View.Leader,v115,v119,v123,
   .int .i64 zg.Told]) hS129 hW rfl (qj rfl (qj rfl (qj (a0g hv117) (qj (a0g hv121) (qj (a0g hv125) (qj rfl zq)))))) (nle rfl) rfl
   (fun h131 hS132=>?_)
 simp only [qa,qwl,qe,qc,f95,qn,B0,reduceIte,a9]
 refine qg (v := .agg [.int .i64 f0.Truth.Epoch,.int .i64 f0.Truth.Leader,d9,e8,f4]) ((zr (a0r _ _ _ (a03 hS132))).trans rfl) ?_
 simp only [f96,qq,qb,s5,s9,t5,qr,qn,B0,reduceIte,a9]
 refine qg (v := .int .i64 d8.K) rfl ?_
 obtain ⟨c133,hv134,hS135⟩:=a1x (c:=c108) (os:=c116++(c120++(c124))) hv111 rfl hx104 z7 (Node.RI (x:=zg) hv117 hv121 hv125) (a1p (c1:=c116)
   (c2:=c120) (c3:=c124) (a0i (a0i (a0i (a0i hS132)))))
 have hv136:=a1s hv134
 obtain ⟨v137,hx138,hF139⟩:=qi hF105
 simp only [zi,B0,reduceIte,a9]
 refine ju rfl (ql (jo (ql qs (ql qs (ql (a06 i8 (a0i hS135) rfl (fun _=>rfl) (fun _=>rfl)) (ql
   (SlN.snap hv136 _ hS135 rfl Node.RO) (ql (a06 l5 (a03 hS135) rfl (fun _=>rfl) (fun _=>rfl)) zh)))))) (ql qs zh)) (qhd
   (fun b hb=>decide_eq_true hb) f0 d8.K v137 hx138) ?_
 simp only [qd,qa,qu2,qe,qc,B0,reduceIte,a9]
 refine jj 8 (fun fr' h'=>Sep h' lo ([Blk1 b1 [.int .i64 f0.Truth.Epoch,.int .i64 f0.Truth.Leader,d9,e8,f4] 28]++([Blk1 b9 [.int .i64 0,.int .i64 0,.nil,
   .nil,.nil] 28]++([Blk1 b127 [.int .i64 zg.View.Epoch,.int .i64 zg.View.Leader,v115,v119,v123,
   .int .i64 zg.Told] 68]++(i4++(c108++(i5++(c116++(c120++(c124++(S0))))))))))∧fr' 80 = .bool (v137&&(decide
   (zg.View.Epoch=f0.Truth.Epoch)))∧fr' 2 = .ptr b1 0∧fr' 3 = .ref [.int .i64 d8.Kind,.int .i64 d8.K,.int .i64 d8.To,
   .int .i64 d8.N] 0∧fr' 4 = .ptr b9 0∧fr' 7 = .ptr b127 0∧fr' 8 = .bool v137) (fun Q140 hN141=>?_) ?_
 ·simp only [t8,a0d]
  simp only [qf (g:=72),B0,reduceIte,a9]
  refine zj (t:=v137) (fun hg142=>?_) (fun hg142=>?_)
  ·simp only [hg142,qf (g:=72),zl,qq,qb,s5,s9,t5,zd,qn,B0,reduceIte,a9]
   refine qg (v := .int .i64 zg.View.Epoch) ((jt (a0r _ _ _ hS132)).trans rfl) ?_
   simp only [hg142,qf (g:=72),zl,f95,qq,qb,s5,s9,t5,zd,qn,B0,reduceIte,a9]
   refine qg (v := .int .i64 f0.Truth.Epoch) ((jt (a0r _ _ _ (a03 hS132))).trans rfl) ?_
   simp only [hg142,qf (g:=72),zl,qv,qb,k7,qx,zo,qa,qo,B0,reduceIte,a9]
   exact hN141 _ _ ⟨(t7 (t7 (a0v (t7 (a03 (t7 (a0i (a0i (a0i hS132))))))))),by rw [yk hg142]; simp only [B0,reduceIte,a9],f95,
     f96,f97,rfl,by simp only [B0,reduceIte,a9,hg142]⟩
  ·simp only [hg142,qf (g:=72),jh,qx,qb,zn,qa,qo,B0,reduceIte,a9]
   exact hN141 _ _ ⟨(t7 (t7 (a0v (t7 (a03 (t7 (a0i (a0i (a0i hS132))))))))),by rw [yj hg142]; simp only [B0,reduceIte,a9],f95,
     f96,f97,rfl,by simp only [B0,reduceIte,a9,hg142]⟩
 rintro fr143 h150 ⟨hS151,f144,f145,f146,f147,f148,f149⟩
 simp only [t9,a0c]
 simp only [f144,qd,B0,reduceIte,a9]
 refine jj 6 (fun fr' h'=>Sep h' lo ([Blk1 b1 [.int .i64 f0.Truth.Epoch,.int .i64 f0.Truth.Leader,d9,e8,f4] 28]++([Blk1 b9 [.int .i64 0,.int .i64 0,.nil,
   .nil,.nil] 28]++([Blk1 b127 [.int .i64 zg.View.Epoch,.int .i64 zg.View.Leader,v115,v119,v123,
   .int .i64 zg.Told] 68]++(i4++(c108++(i5++(c116++(c120++(c124++(S0))))))))))∧fr' 87 = .bool ((v137&&(decide
   (zg.View.Epoch=f0.Truth.Epoch)))&&(decide (d8.To≠d8.K)))∧fr' 2 = .ptr b1 0∧fr' 3 = .ref [.int .i64 d8.Kind,.int .i64 d8.K,.int .i64 d8.To,
   .int .i64 d8.N] 0∧fr' 4 = .ptr b9 0∧fr' 7 = .ptr b127 0∧fr' 8 = .bool v137) (fun Q152 hN153=>?_) ?_
 ·simp only [t8,a0d]
  simp only [qf (g:=81),B0,reduceIte,a9]
  refine zj (t:=(v137&&(decide (zg.View.Epoch=f0.Truth.Epoch)))) (fun hg154=>?_) (fun hg154=>?_)
  ·simp only [hg154,qf (g:=81),zl,f146,qq,qb,s5,s9,t5,qr,qn,B0,reduceIte,a9]
   refine qg (v := .int .i64 d8.To) rfl ?_
   simp only [hg154,qf (g:=81),zl,f146,qq,qb,s5,s9,t5,qr,qn,B0,reduceIte,a9]
   refine qg (v := .int .i64 d8.K) rfl ?_
   simp only [hg154,qf (g:=81),zl,qv,qb,ya,qx,zo,qa,qo,B0,reduceIte,a9]
   exact hN153 _ _ ⟨(t7 (t7 (t7 (t7 (t7 (t7 (t7 (t7 (t7 hS151))))))))),by rw [yk hg154]; simp only [B0,reduceIte,a9],f145,
     f146,f147,f148,f149⟩
  ·simp only [hg154,qf (g:=81),jh,qx,qb,zn,qa,qo,B0,reduceIte,a9]
   exact hN153 _ _ ⟨(t7 (t7 (t7 (t7 (t7 (t7 (t7 (t7 (t7 hS151))))))))),by rw [yj hg154]; simp only [B0,reduceIte,a9],f145,
     f146,f147,f148,f149⟩
 rintro fr155 h162 ⟨hS163,f156,f157,f158,f159,f160,f161⟩
 simp only [t9,a0c]
 simp only [f156,qd,qa,qt0,qe,qc,f157,qq,qb,s5,s9,t5,zd,qn,B0,reduceIte,a9]
 refine qg (v:=d9) ((jt (a0r _ _ _ hS163)).trans rfl) ?_
 simp only [f158,qq,qb,s5,s9,t5,qr,qn,B0,reduceIte,a9]
 refine qg (v := .int .i64 d8.To) rfl ?_
 obtain ⟨v164,hx165,hF166⟩:=qi hF139
 simp only [zi,B0,reduceIte,a9]
 refine ju rfl (ql (a06 i8 (a0e hS163) rfl (fun _=>rfl) (fun _=>rfl)) (ql qs zh)) (qhl
   (fun b hb=>decide_eq_true hb) f0.Truth.InStep d8.To v164 hx165) ?_
 simp only [qd,qa,qu9,qe,kj,qui,qc,f158,qq,qb,s5,s9,t5,qr,qn,B0,reduceIte,
   a9]
 refine qg (v := .int .i64 d8.Kind) rfl ?_
 simp only [qv,qb,k7,qd,B0,reduceIte,a9]
 obtain ⟨v170,hx171,hF172⟩:=qi hF166
 refine jj 7 (fun fr' h'=>Sep h' lo ([Blk1 b1 [.int .i64 f0.Truth.Epoch,.int .i64 f0.Truth.Leader,d9,e8,f4] 28]++([Blk1 b9 [.int .i64 0,.int .i64 0,.nil,
   .nil,.nil] 28]++([Blk1 b127 [.int .i64 zg.View.Epoch,.int .i64 zg.View.Leader,v115,v119,v123,
   .int .i64 zg.Told] 68]++(i4++(c108++(i5++(c116++(c120++(c124 ++
   (S0))))))))))∧fr' 106 = .bool v170∧fr' 2 = .ptr b1 0∧fr' 3 = .ref [.int .i64 d8.Kind,.int .i64 d8.K,.int .i64 d8.To,
   .int .i64 d8.N] 0∧fr' 4 = .ptr b9 0∧fr' 7 = .ptr b127 0∧fr' 8 = .bool v137∧fr' 9 = .bool ((v137&&(decide (zg.View.Epoch=f0.Truth.Epoch)))&&(decide
   (d8.To≠d8.K)))∧fr' 10 = .bool v164) (fun Q167 hN168=>?_) ?_
 ·simp only [t8,a0d]
  simp only [qf (g:=99),B0,reduceIte,a9]
  refine zj (t:=(decide (d8.Kind=1))) (fun hg169=>?_) (fun hg169=>?_)
  ·rw [iteT hg169] at hx171
   simp only [hg169,qf (g:=99),zl,f157,qq,qb,s5,s9,t5,zd,qn,B0,reduceIte,a9]
   refine qg (v:=d9) ((jt (a0r _ _ _ hS163)).trans rfl) ?_
   simp only [hg169,qf (g:=99),zl,f158,qq,qb,s5,s9,t5,qr,qn,B0,reduceIte,a9]
   refine qg (v := .int .i64 d8.K) rfl ?_
   obtain ⟨v173,hx174,hF175⟩:=qi hx171
   simp only [hg169,qf (g:=99),zl,zi,B0,reduceIte,a9]
   refine ju rfl (ql (a06 i8 (a0e hS163) rfl (fun _=>rfl) (fun _=>rfl)) (ql qs zh)) (qhl
     (fun b hb=>decide_eq_true hb) f0.Truth.InStep d8.K v173 hx174) ?_
   simp only [hg169,qx,qb,zo,qa,qo,B0,reduceIte,a9]
   have e176:=qh hF175
   exact hN168 _ _ ⟨(t7 (t7 (t7 (t7 (t7 (t7 (t7 (t7 (t7 hS163))))))))),by rw [←e176]; simp only [B0,reduceIte,a9],f157,f158,
     f159,f160,f161,rfl,rfl⟩
  ·rw [iteF hg169] at hx171
   simp only [hg169,qf (g:=99),jh,qx,qb,zn,qa,qo,B0,reduceIte,a9]
   have e177:=qh hx171
   exact hN168 _ _ ⟨(t7 (t7 (t7 (t7 (t7 (t7 (t7 (t7 (t7 hS163))))))))),by rw [←e177]; simp only [B0,reduceIte,a9],f157,f158,
     f159,f160,f161,rfl,rfl⟩
 rintro fr178 h187 ⟨hS188,f179,f180,f181,f182,f183,f184,f185,f186⟩
 simp only [t9,a0c]
 simp only [f179,qd,B0,reduceIte,a9]
 refine jj 5 (fun fr' h'=>Sep h' lo ([Blk1 b1 [.int .i64 f0.Truth.Epoch,.int .i64 f0.Truth.Leader,d9,e8,f4] 28]++([Blk1 b9 [.int .i64 0,.int .i64 0,.nil,
   .nil,.nil] 28]++([Blk1 b127 [.int .i64 zg.View.Epoch,.int .i64 zg.View.Leader,v115,v119,v123,
   .int .i64 zg.Told] 68]++(i4++(c108++(i5++(c116++(c120++(c124++(S0))))))))))∧fr' 112 = .bool (v170&&(decide
   (f0.Truth.Epoch<100)))∧fr' 2 = .ptr b1 0∧fr' 3 = .ref [.int .i64 d8.Kind,.int .i64 d8.K,.int .i64 d8.To,
   .int .i64 d8.N] 0∧fr' 4 = .ptr b9 0∧fr' 7 = .ptr b127 0∧fr' 8 = .bool v137∧fr' 9 = .bool ((v137&&(decide (zg.View.Epoch=f0.Truth.Epoch)))&&(decide
   (d8.To≠d8.K)))∧fr' 10 = .bool v164) (fun Q189 hN190=>?_) ?_
 ·simp only [t8,a0d]
  simp only [qf (g:=107),B0,reduceIte,a9]
  refine zj (t:=v170) (fun hg191=>?_) (fun hg191=>?_)
  ·simp only [hg191,qf (g:=107),zl,f180,qq,qb,s5,s9,t5,zd,qn,B0,reduceIte,a9]
   refine qg (v := .int .i64 f0.Truth.Epoch) ((jt (a0r _ _ _ hS188)).trans rfl) ?_
   simp only [hg191,qf (g:=107),zl,qv,qb,k6,qx,zo,qa,qo,B0,reduceIte,a9]
   exact hN190 _ _ ⟨(t7 (t7 (t7 (t7 (t7 (t7 (t7 (t7 (t7 hS188))))))))),by rw [yk hg191]; simp only [B0,reduceIte,a9],f180,
     f181,f182,f183,f184,f185,f186⟩
  ·simp only [hg191,qf (g:=107),jh,qx,qb,zn,qa,qo,B0,reduceIte,a9]
   exact hN190 _ _ ⟨(t7 (t7 (t7 (t7 (t7 (t7 (t7 (t7 (t7 hS188))))))))),by rw [yj hg191]; simp only [B0,reduceIte,a9],f180,
     f181,f182,f183,f184,f185,f186⟩
 rintro fr192 h201 ⟨hS202,f193,f194,f195,f196,f197,f198,f199,f200⟩
 simp only [t9,a0c]
 simp only [f193,qd,qa,qxk,qy,B0,reduceIte,a9]
 refine qu (t:=(v170&&(decide (f0.Truth.Epoch<100)))) (fun hc203=>?_) (fun hc203=>?_)
 ·rw [iteT hc203] at hF172
  simp only [qzt,qe,qc,f194,qq,qb,s5,s9,t5,zd,qn,B0,reduceIte,a9]
  refine qg (v := .int .i64 f0.Truth.Epoch) ((jt (a0r _ _ _ hS202)).trans rfl) ?_
  simp only [qv,qb,yx,f194,qq,s5,s9,t5,zd,zp,B0,reduceIte,a9]
  refine zm (us:=[.int .i64 (a0a .i64 (f0.Truth.Epoch+1))]) rfl (cs':=[.int .i64 (a0a .i64 (f0.Truth.Epoch+1)),.int .i64 f0.Truth.Leader,
    d9,e8,f4]) hS202 hW rfl rfl (nle rfl) rfl (fun h204 hS205=>?_)
  simp only [qa,qz9,qc,f195,qq,qb,s5,s9,t5,qr,qn,B0,reduceIte,a9]
  refine qg (v := .int .i64 d8.K) rfl ?_
  simp only [f194,qq,qb,s5,s9,t5,zd,zp,B0,reduceIte,a9]
  refine zm (us:=[.int .i64 d8.K]) rfl (cs':=[.int .i64 (a0a .i64 (f0.Truth.Epoch+1)),.int .i64 d8.K,d9,e8,
    f4]) hS205 hW rfl rfl (nle rfl) rfl (fun h206 hS207=>?_)
  simp only [qa,yd,qe,qc,f194,qn,B0,reduceIte,a9]
  refine qg (v := .agg [.int .i64 (a0a .i64 (f0.Truth.Epoch+1)),.int .i64 d8.K,d9,e8,f4]) ((zr (a0r _ _ _ hS207)).trans rfl) ?_
  simp only [f196,zp,B0,reduceIte,a9]
  refine zm (us:=[.int .i64 (a0a .i64 (f0.Truth.Epoch+1)),.int .i64 d8.K,d9,e8,
    f4]) rfl (cs':=[.int .i64 (a0a .i64 (f0.Truth.Epoch+1)),.int .i64 d8.K,d9,e8,
    f4]) (a0l hS207) hW rfl (qj rfl (qj rfl (qj (a0g i8) (qj (a4h hv111) (qj (a0g l5) zq))))) (nle rfl) rfl (fun h208 hS209=>?_)
  simp only [qd,qa,qw,B0,reduceIte,a9]
  obtain ⟨c210,hv211,hS212⟩:=a1x (c:=c108) (os:=c116++(c120++(c124))) hv111 rfl hx104 z7 (Node.RI (x:=zg) hv117 hv121 hv125) (a1p (c1:=c116)
    (c2:=c120) (c3:=c124) (a0j (t7 (t7 (t7 hS209)))))
  have hv213:=a1s hv211
  have he:=qh hF172
  subst he
  refine jv (ql (j6 (bb:=b9) (oo:=0) (v := .agg [.int .i64 (a0a .i64 (f0.Truth.Epoch+1)),.int .i64 d8.K,d9,e8,
    f4]) (f196) ((zr (a0r _ _ _ (a0l hS212))).trans rfl)) (ql (k8 (v := .bool true) (rfl)) zh)) ?_
  exact ⟨d9,i4,c210,f4,i5,by first | trivial | rfl,i8,hv213,l5,(a0k (a0l (a0k (a0s (a0l (a0s (a0l (a0s (a0l hS212)))))))))⟩
 rw [iteF hc203] at hF172
 simp only [qv7,qe,qc,f195,qq,qb,s5,s9,t5,qr,qn,B0,reduceIte,a9]
 refine qg (v := .int .i64 d8.Kind) rfl ?_
 simp only [qv,qb,k7,qd,B0,reduceIte,a9]
 obtain ⟨v217,hx218,hF219⟩:=qi hF172
 refine jj 7 (fun fr' h'=>Sep h' lo ([Blk1 b1 [.int .i64 f0.Truth.Epoch,.int .i64 f0.Truth.Leader,d9,e8,f4] 28]++([Blk1 b9 [.int .i64 0,.int .i64 0,.nil,
   .nil,.nil] 28]++([Blk1 b127 [.int .i64 zg.View.Epoch,.int .i64 zg.View.Leader,v115,v119,v123,
   .int .i64 zg.Told] 68]++(i4++(c108++(i5++(c116++(c120++(c124 ++
   (S0))))))))))∧fr' 134 = .bool v217∧fr' 2 = .ptr b1 0∧fr' 3 = .ref [.int .i64 d8.Kind,.int .i64 d8.K,.int .i64 d8.To,
   .int .i64 d8.N] 0∧fr' 4 = .ptr b9 0∧fr' 7 = .ptr b127 0∧fr' 8 = .bool v137∧fr' 9 = .bool ((v137&&(decide (zg.View.Epoch=f0.Truth.Epoch)))&&(decide
   (d8.To≠d8.K)))∧fr' 10 = .bool v164) (fun Q214 hN215=>?_) ?_
 ·simp only [t8,a0d]
  simp only [qf (g:=127),B0,reduceIte,a9]
  refine zj (t:=(decide (d8.Kind=2))) (fun hg216=>?_) (fun hg216=>?_)
  ·rw [iteT hg216] at hx218
   simp only [hg216,qf (g:=127),zl,f197,qq,qb,s5,s9,t5,zd,qn,B0,reduceIte,a9]
   refine qg (v := .agg [.int .i64 zg.View.Epoch,.int .i64 zg.View.Leader,v115]) ((zr (a0r _ _ _ (a0k hS202))).trans rfl) ?_
   simp only [hg216,qf (g:=127),zl,f194,qq,qb,s5,s9,t5,zd,qn,B0,reduceIte,a9]
   refine qg (v := .agg [.int .i64 f0.Truth.Epoch,.int .i64 f0.Truth.Leader,d9]) ((zr (a0r _ _ _ hS202)).trans rfl) ?_
   obtain ⟨v220,hx221,hF222⟩:=qi hx218
   simp only [hg216,qf (g:=127),zl,zi,B0,reduceIte,a9]
   refine ju rfl (ql (jo (ql qs (ql qs (ql (a06 hv117 (a0v hS202) rfl (fun _=>rfl) (fun _=>rfl)) zh)))) (ql (jo
     (ql qs (ql qs (ql (a06 i8 (a0e hS202) rfl (fun _=>rfl) (fun _=>rfl)) zh)))) zh)) (qnn
     (fun b hb=>decide_eq_true hb) zg.View f0.Truth v220 hx221) ?_
   simp only [hg216,qf (g:=127),zl,kh,qb,kz,qx,zo,qa,qo,B0,reduceIte,a9]
   have e223:=qh hF222
   exact hN215 _ _ ⟨(t7 (t7 (t7 (t7 (t7 (t7 (t7 (t7 (t7 hS202))))))))),by rw [←e223]; simp only [B0,reduceIte,a9],f194,f195,
     f196,f197,f198,f199,f200⟩
  ·rw [iteF hg216] at hx218
   simp only [hg216,qf (g:=127),jh,qx,qb,zn,qa,qo,B0,reduceIte,a9]
   have e224:=qh hx218
   exact hN215 _ _ ⟨(t7 (t7 (t7 (t7 (t7 (t7 (t7 (t7 (t7 hS202))))))))),by rw [←e224]; simp only [B0,reduceIte,a9],f194,f195,
     f196,f197,f198,f199,f200⟩
 rintro fr225 h234 ⟨hS235,f226,f227,f228,f229,f230,f231,f232,f233⟩
 simp only [t9,a0c]
 simp only [f226,qd,qa,qtb,qy,B0,reduceIte,a9]
 refine qu (t:=v217) (fun hc236=>?_) (fun hc236=>?_)
 ·rw [iteT hc236] at hF219
  simp only [q0e,qe,qc,f227,qn,B0,reduceIte,a9]
  refine qg (v := .agg [.int .i64 f0.Truth.Epoch,.int .i64 f0.Truth.Leader,d9,e8,f4]) ((zr (a0r _ _ _ hS235)).trans rfl) ?_
  simp only [f228,qq,qb,s5,s9,t5,qr,qn,B0,reduceIte,a9]
  refine qg (v := .int .i64 d8.K) rfl ?_
  obtain ⟨c237,hv238,hS239⟩:=a1x (c:=c108) (os:=c116++(c120++(c124))) hv111 rfl hx104 z7 (Node.RI (x:=zg) hv117 hv121 hv125) (a1p (c1:=c116)
    (c2:=c120) (c3:=c124) (a0j (t7 (t7 (t7 hS235)))))
  have hv240:=a1s hv238
  obtain ⟨v241,hx242,hF243⟩:=qi hF219
  simp only [zi,B0,reduceIte,a9]
  refine wc rfl (qmn hW f0 d9 i4 i8 e8 c237 hv240 f4 i5 l5 d8.K v241 hx242 (a03 (a0l (a03 hS239)))) ?_
  rintro _ h250 ⟨c244,c246,c248,rfl,hv245,hv247,hv249,hS251⟩
  simp only [f229,zp,B0,reduceIte,a9]
  refine zm (us:=[.int .i64 v241.Truth.Epoch,.int .i64 v241.Truth.Leader,d9,e8,f4]) rfl (cs':=[.int .i64 v241.Truth.Epoch,.int .i64 v241.Truth.Leader,
    d9,e8,f4]) (a0i hS251) hW rfl (qj rfl (qj rfl (qj (a0g hv245) (qj (a10 hv247) (qj (a0g hv249) zq))))) (nle rfl) rfl
    (fun h252 hS253=>?_)
  simp only [qd,qa,qw,B0,reduceIte,a9]
  have he:=qh hF243
  subst he
  refine jv (ql (j6 (bb:=b9) (oo:=0) (v := .agg [.int .i64 v241.Truth.Epoch,.int .i64 v241.Truth.Leader,d9,e8,
    f4]) (f229) ((zr (a0r _ _ _ hS253)).trans rfl)) (ql (k8 (v := .bool true) (rfl)) zh)) ?_
  exact ⟨d9,c244,c246,f4,c248,by first | trivial | rfl,hv245,hv247,hv249,(a0k (a0k (a0k (a0s (a0e (a0s (a0e (a0s (hS253)))))))))⟩
 rw [iteF hc236] at hF219
 simp only [qt6,qe,qc,f228,qq,qb,s5,s9,t5,qr,qn,B0,reduceIte,a9]
 refine qg (v := .int .i64 d8.Kind) rfl ?_
 simp only [qv,qb,k7,qd,B0,reduceIte,a9]
 refine jj 2 (fun fr' h'=>Sep h' lo ([Blk1 b1 [.int .i64 f0.Truth.Epoch,.int .i64 f0.Truth.Leader,d9,e8,f4] 28]++([Blk1 b9 [.int .i64 0,.int .i64 0,.nil,
   .nil,.nil] 28]++([Blk1 b127 [.int .i64 zg.View.Epoch,.int .i64 zg.View.Leader,v115,v119,v123,
   .int .i64 zg.Told] 68]++(i4++(c108++(i5++(c116++(c120++(c124++(S0))))))))))∧fr' 145 = .bool ((decide
   (d8.Kind=3))&&v137)∧fr' 2 = .ptr b1 0∧fr' 3 = .ref [.int .i64 d8.Kind,.int .i64 d8.K,.int .i64 d8.To,
   .int .i64 d8.N] 0∧fr' 4 = .ptr b9 0∧fr' 7 = .ptr b127 0∧fr' 8 = .bool v137∧fr' 9 = .bool ((v137&&(decide (zg.View.Epoch=f0.Truth.Epoch)))&&(decide
   (d8.To≠d8.K)))∧fr' 10 = .bool v164) (fun Q254 hN255=>?_) ?_
 ·simp only [t8,a0d]
  simp only [qf (g:=143),B0,reduceIte,a9]
  refine zj (t:=(decide (d8.Kind=3))) (fun hg256=>?_) (fun hg256=>?_)
  ·simp only [hg256,qf (g:=143),zl,f231,qd,qx,qb,zo,qa,qo,B0,reduceIte,a9]
   exact hN255 _ _ ⟨(t7 (t7 (t7 (t7 (t7 (t7 (t7 (t7 (t7 hS235))))))))),by rw [yk hg256]; simp only [B0,reduceIte,a9],f227,
     f228,f229,f230,f231,f232,f233⟩
  ·simp only [hg256,qf (g:=143),jh,qx,qb,zn,qa,qo,B0,reduceIte,a9]
   exact hN255 _ _ ⟨(t7 (t7 (t7 (t7 (t7 (t7 (t7 (t7 (t7 hS235))))))))),by rw [yj hg256]; simp only [B0,reduceIte,a9],f227,
     f228,f229,f230,f231,f232,f233⟩
 rintro fr257 h266 ⟨hS267,f258,f259,f260,f261,f262,f263,f264,f265⟩
 simp only [t9,a0c]
 simp only [f258,qd,B0,reduceIte,a9]
 refine jj 4 (fun fr' h'=>Sep h' lo ([Blk1 b1 [.int .i64 f0.Truth.Epoch,.int .i64 f0.Truth.Leader,d9,e8,f4] 28]++([Blk1 b9 [.int .i64 0,.int .i64 0,.nil,
   .nil,.nil] 28]++([Blk1 b127 [.int .i64 zg.View.Epoch,.int .i64 zg.View.Leader,v115,v119,v123,
   .int .i64 zg.Told] 68]++(i4++(c108++(i5++(c116++(c120++(c124++(S0))))))))))∧fr' 150 = .bool (((decide (d8.Kind=3))&&v137) &&
   (kt d8.N 0 99))∧fr' 2 = .ptr b1 0∧fr' 3 = .ref [.int .i64 d8.Kind,.int .i64 d8.K,.int .i64 d8.To,
   .int .i64 d8.N] 0∧fr' 4 = .ptr b9 0∧fr' 7 = .ptr b127 0∧fr' 8 = .bool v137∧fr' 9 = .bool ((v137&&(decide (zg.View.Epoch=f0.Truth.Epoch)))&&(decide
   (d8.To≠d8.K)))∧fr' 10 = .bool v164) (fun Q268 hN269=>?_) ?_
 ·simp only [t8,a0d]
  simp only [qf (g:=146),B0,reduceIte,a9]
  refine zj (t:=((decide (d8.Kind=3))&&v137)) (fun hg270=>?_) (fun hg270=>?_)
  ·simp only [hg270,qf (g:=146),zl,f260,qq,qb,s5,s9,t5,qr,qn,B0,reduceIte,a9]
   refine qg (v := .int .i64 d8.N) rfl ?_
   simp only [hg270,qf (g:=146),zl,zi,B0,reduceIte,a9]
   refine ju rfl (ql qs (ql qs (ql qs zh))) (qft (fun b hb=>decide_eq_true hb) d8.N 0 99 _ rfl) ?_
   simp only [hg270,qx,qb,zo,qa,qo,B0,reduceIte,a9]
   exact hN269 _ _ ⟨(t7 (t7 (t7 (t7 (t7 (t7 (t7 (t7 (t7 hS267))))))))),by rw [yk hg270]; simp only [B0,reduceIte,a9],f259,
     f260,f261,f262,f263,f264,f265⟩
  ·simp only [hg270,qf (g:=146),jh,qx,qb,zn,qa,qo,B0,reduceIte,a9]
   exact hN269 _ _ ⟨(t7 (t7 (t7 (t7 (t7 (t7 (t7 (t7 (t7 hS267))))))))),by rw [yj hg270]; simp only [B0,reduceIte,a9],f259,
     f260,f261,f262,f263,f264,f265⟩
 rintro fr271 h280 ⟨hS281,f272,f273,f274,f275,f276,f277,f278,f279⟩
 simp only [t9,a0c]
 simp only [f272,qd,B0,reduceIte,a9]
 refine jj 5 (fun fr' h'=>Sep h' lo ([Blk1 b1 [.int .i64 f0.Truth.Epoch,.int .i64 f0.Truth.Leader,d9,e8,f4] 28]++([Blk1 b9 [.int .i64 0,.int .i64 0,.nil,
   .nil,.nil] 28]++([Blk1 b127 [.int .i64 zg.View.Epoch,.int .i64 zg.View.Leader,v115,v119,v123,
   .int .i64 zg.Told] 68]++(i4++(c108++(i5++(c116++(c120++(c124++(S0))))))))))∧fr' 156 = .bool ((((decide (d8.Kind=3))&&v137) &&
   (kt d8.N 0 99))&&(decide ((t6 zg.Log:Int)<30)))∧fr' 2 = .ptr b1 0∧fr' 3 = .ref [.int .i64 d8.Kind,.int .i64 d8.K,.int .i64 d8.To,
   .int .i64 d8.N] 0∧fr' 4 = .ptr b9 0∧fr' 7 = .ptr b127 0∧fr' 8 = .bool v137∧fr' 9 = .bool ((v137&&(decide (zg.View.Epoch=f0.Truth.Epoch)))&&(decide
   (d8.To≠d8.K)))∧fr' 10 = .bool v164) (fun Q282 hN283=>?_) ?_
 ·simp only [t8,a0d]
  simp only [qf (g:=151),B0,reduceIte,a9]
  refine zj (t:=(((decide (d8.Kind=3))&&v137)&&(kt d8.N 0 99))) (fun hg284=>?_) (fun hg284=>?_)
  ·simp only [hg284,qf (g:=151),zl,f276,qq,qb,s5,s9,t5,zd,qn,B0,reduceIte,a9]
   refine qg (v:=v119) ((jt (a0r _ _ _ (a0k hS281))).trans rfl) ?_
   simp only [hg284,qf (g:=151),zl,zy,qb,SlF.plen hv121,qv,k6,qx,zo,qa,qo,B0,reduceIte,a9]
   exact hN283 _ _ ⟨(t7 (t7 (t7 (t7 (t7 (t7 (t7 (t7 (t7 hS281))))))))),by rw [yk hg284]; simp only [B0,reduceIte,a9],f273,
     f274,f275,f276,f277,f278,f279⟩
  ·simp only [hg284,qf (g:=151),jh,qx,qb,zn,qa,qo,B0,reduceIte,a9]
   exact hN283 _ _ ⟨(t7 (t7 (t7 (t7 (t7 (t7 (t7 (t7 (t7 hS281))))))))),by rw [yj hg284]; simp only [B0,reduceIte,a9],f273,
     f274,f275,f276,f277,f278,f279⟩
 rintro fr285 h294 ⟨hS295,f286,f287,f288,f289,f290,f291,f292,f293⟩
 simp only [t9,a0c]
 simp only [f286,qd,qa,qwz,qy,B0,reduceIte,a9]
 refine qu (t:=((((decide (d8.Kind=3))&&v137)&&(kt d8.N 0 99))&&(decide ((t6 zg.Log:Int)<30)))) (fun hc296=>?_) (fun hc296=>?_)
 ·rw [iteT hc296] at hF219
  simp only [qz5,qe,qc,f290,qq,qb,s5,s9,t5,zd,qn,B0,reduceIte,a9]
  refine qg (v:=v119) ((jt (a0r _ _ _ (a0k hS295))).trans rfl) ?_
  simp only [f290,qq,qb,s5,s9,t5,zd,qn,B0,reduceIte,a9]
  refine qg (v := .int .i64 zg.View.Epoch) ((jt (a0r _ _ _ (a0k hS295))).trans rfl) ?_
  simp only [f288,qq,qb,s5,s9,t5,qr,qn,B0,reduceIte,a9]
  refine qg (v := .int .i64 d8.N) rfl ?_
  simp only [run_build,evp,B0,reduceIte,a9]
  refine qg (v := .agg [.int .i64 zg.View.Epoch,.int .i64 d8.N]) rfl ?_
  simp only [yh,evp,B0,reduceIte,a9]
  refine kx (n:=2) (f:=qm) [(Row.mk zg.View.Epoch d8.N)] hS295 rfl rfl (fun v297 c298 h299 hv300 hS301=>?_)
  simp only [wt,B0,reduceIte,a9]
  obtain ⟨l303,hx304,hF305⟩:=qi hF219
  refine yn (f:=qm) hv121 (t7 hS301) hW (fun _=>rfl) (fun _=>rfl) (SlF.first hv300 hS301 (fun _=>rfl)) hx304 (fun v306 c307 h308 hv309 hS310=>?_)
  simp only [f290,qq,qb,s5,s9,t5,zd,zp,B0,reduceIte,a9]
  refine zm (us:=[v306]) (j8 (a0g hv309)) (cs':=[.int .i64 zg.View.Epoch,.int .i64 zg.View.Leader,v115,v306,v123,
    .int .i64 zg.Told]) (a0i hS310) hW rfl (qj (a0g hv309) zq) (nle rfl) rfl (fun h312 hS313=>?_)
  simp only [qa,q16,qe,qc,f290,qq,qb,s5,s9,t5,zd,qn,B0,reduceIte,a9]
  refine qg (v:=v123) ((jt (a0r _ _ _ hS313)).trans rfl) ?_
  simp only [f288,qq,qb,s5,s9,t5,qr,qn,B0,reduceIte,a9]
  refine qg (v := .int .i64 d8.K) rfl ?_
  simp only [f290,qq,qb,s5,s9,t5,zd,qn,B0,reduceIte,a9]
  refine qg (v:=v306) ((jt (a0r _ _ _ hS313)).trans rfl) ?_
  obtain ⟨x314,hx315,hF316⟩:=qi hF305
  simp only [zy,qb,SlF.plen hv309,ji,B0,reduceIte,a9]
  obtain ⟨b317,hb318⟩:=a13 hv125 (ka hx315)
  refine qg (a2u hv125 hb318 hx315) ?_
  simp only [zp,B0,reduceIte,a9]
  refine x6 (f:=cI) (x':=(t6 l303:Int)) (o:=0) hv125 (Sep.m9 hS313) hW hb318 hx315 (fun _=>rfl) rfl rfl (nle rfl) rfl (fun c321 h319 hv322 hS320=>?_)
  have hx323:=kf (x':=(t6 l303:Int)) hx315
  simp only [qa,q3l,qc,f287,qq,qb,s5,s9,t5,zd,qn,B0,reduceIte,a9]
  refine qg (v:=e8) ((jt (a0r _ _ _ (a0i hS320))).trans rfl) ?_
  simp only [f288,qq,qb,s5,s9,t5,qr,qn,B0,reduceIte,a9]
  refine qg (v := .int .i64 d8.K) rfl ?_
  simp only [f290,qn,B0,reduceIte,a9]
  refine qg (v := .agg [.int .i64 zg.View.Epoch,.int .i64 zg.View.Leader,v115,v306,v123,.int .i64 zg.Told]) ((zr (a0r _ _ _ (a0l hS320))).trans rfl) ?_
  simp only [ji,B0,reduceIte,a9]
  refine qg (SlG.ia hv111 hx104) ?_
  simp only [zp,B0,reduceIte,a9]
  refine ws (n:=6) (us:=[.int .i64 zg.View.Epoch,.int .i64 zg.View.Leader,v115,v306,v123,.int .i64 zg.Told]) (cs:=[.int .i64 zg.View.Epoch,
    .int .i64 zg.View.Leader,v115,v119,v123,.int .i64 zg.Told]) (o:=0) (cs':=[.int .i64 zg.View.Epoch,.int .i64 zg.View.Leader,v115,v306,v123,
    .int .i64 zg.Told]) rfl hv111 rfl hx104 (a0j hS320) hW rfl (qj rfl (qj rfl (qj (a0g hv117) (qj (a0g hv309) (qj (a0g hv322)
    (qj rfl zq)))))) (nle rfl) rfl (fun c326 h324 hv327 hS325=>?_)
  simp only [qa,yd,qe,qc,f287,qn,B0,reduceIte,a9]
  refine qg (v := .agg [.int .i64 f0.Truth.Epoch,.int .i64 f0.Truth.Leader,d9,e8,f4]) ((zr (a0r _ _ _ (a03 hS325))).trans rfl) ?_
  simp only [f289,zp,B0,reduceIte,a9]
  refine zm (us:=[.int .i64 f0.Truth.Epoch,.int .i64 f0.Truth.Leader,d9,e8,f4]) rfl (cs':=[.int .i64 f0.Truth.Epoch,.int .i64 f0.Truth.Leader,
    d9,e8,f4]) (a0v hS325) hW rfl (qj rfl (qj rfl (qj (a0g i8) (qj (a4h hv327) (qj (a0g l5) zq))))) (nle rfl) rfl
    (fun h328 hS329=>?_)
  simp only [qd,qa,qw,B0,reduceIte,a9]
  obtain ⟨c330,hv331,hS332⟩:=SlG.cls (e':=(Node.mk zg.View l303 (a1u zg.Known d8.K.toNat (t6 l303:Int)) zg.Told)) (c:=c326) (os:=c116 ++
    (c307++(c321))) hv327 rfl hx104 z7 (Node.RI (x:=(Node.mk zg.View l303 (a1u zg.Known d8.K.toNat (t6 l303:Int)) zg.Told)) hv117 hv309 hv322)
    (a1p (c1:=c116) (c2:=c307) (c3:=c321) (a0i (Sep.m9 (a0i (a0k hS329)))))
  have hx333:=kf (x':=(Node.mk zg.View l303 (a1u zg.Known d8.K.toNat (t6 l303:Int)) zg.Told)) hx104
  have hv334:=a1s hv331
  have he:=qh hF316
  subst he
  refine jv (ql (j6 (bb:=b9) (oo:=0) (v := .agg [.int .i64 f0.Truth.Epoch,.int .i64 f0.Truth.Leader,d9,e8,
    f4]) (f289) ((zr (a0r _ _ _ (a0l hS332))).trans rfl)) (ql (k8 (v := .bool true) (rfl)) zh)) ?_
  exact ⟨d9,i4,c330,f4,i5,by first | trivial | rfl,i8,hv334,l5,
    (a0k (a0l (a0k (a0s (a0l (a0s (a0l (a0s (a0l (a0s (a0l hS332)))))))))))⟩
 rw [iteF hc296] at hF219
 simp only [qwc,qe,js,f288,z9,qk,s5,s9,t5,qr,zu,B0,reduceIte,a9]
 refine qt (v := .int .i64 d8.Kind) rfl ?_
 simp only [yg,qk,k7,zv,B0,reduceIte,a9]
 refine wu 3 (fun fr' h'=>Sep h' lo ([Blk1 b1 [.int .i64 f0.Truth.Epoch,.int .i64 f0.Truth.Leader,d9,e8,f4] 28]++([Blk1 b9 [.int .i64 0,.int .i64 0,.nil,
   .nil,.nil] 28]++([Blk1 b127 [.int .i64 zg.View.Epoch,.int .i64 zg.View.Leader,v115,v119,v123,
   .int .i64 zg.Told] 68]++(i4++(c108++(i5++(c116++(c120++(c124++(S0))))))))))∧fr' 189 = .bool ((decide (d8.Kind=4)) &&
   (!v137))∧fr' 2 = .ptr b1 0∧fr' 3 = .ref [.int .i64 d8.Kind,.int .i64 d8.K,.int .i64 d8.To,
   .int .i64 d8.N] 0∧fr' 4 = .ptr b9 0∧fr' 7 = .ptr b127 0∧fr' 8 = .bool v137∧fr' 9 = .bool ((v137&&(decide (zg.View.Epoch=f0.Truth.Epoch)))&&(decide
   (d8.To≠d8.K)))∧fr' 10 = .bool v164) rfl (fun Q335 hN336=>?_) ?_
 ·simp only [t8,a0d]
  simp only [qp (g:=186),B0,reduceIte,a9]
  refine jq (t:=(decide (d8.Kind=4))) (fun hg337=>?_) (fun hg337=>?_)
  ·simp only [hg337,qp (g:=186),zk,f291,zv,qk,qeu,kz,jf,zo,zc,qo,B0,reduceIte,a9]
   exact hN336 _ _ ⟨(t7 (t7 (t7 (t7 (t7 (t7 (t7 (t7 (t7 hS295))))))))),by rw [yk hg337]; simp only [B0,reduceIte,a9],f287,
     f288,f289,f290,f291,f292,f293⟩
  ·simp only [hg337,qp (g:=186),ku,jf,qk,zn,zc,qo,B0,reduceIte,a9]
   exact hN336 _ _ ⟨(t7 (t7 (t7 (t7 (t7 (t7 (t7 (t7 (t7 hS295))))))))),by rw [yj hg337]; simp only [B0,reduceIte,a9],f287,
     f288,f289,f290,f291,f292,f293⟩
 rintro fr338 h347 ⟨hS348,f339,f340,f341,f342,f343,f344,f345,f346⟩
 simp only [t9,a0c]
 simp only [f339,zv,qk,B0,reduceIte,a9]
 refine wu 6 (fun fr' h'=>Sep h' lo ([Blk1 b1 [.int .i64 f0.Truth.Epoch,.int .i64 f0.Truth.Leader,d9,e8,f4] 28]++([Blk1 b9 [.int .i64 0,.int .i64 0,.nil,
   .nil,.nil] 28]++([Blk1 b127 [.int .i64 zg.View.Epoch,.int .i64 zg.View.Leader,v115,v119,v123,
   .int .i64 zg.Told] 68]++(i4++(c108++(i5++(c116++(c120++(c124++(S0))))))))))∧fr' 196 = .bool (((decide (d8.Kind=4))&&(!v137))&&(decide
   (d8.To≠d8.K)))∧fr' 2 = .ptr b1 0∧fr' 3 = .ref [.int .i64 d8.Kind,.int .i64 d8.K,.int .i64 d8.To,
   .int .i64 d8.N] 0∧fr' 4 = .ptr b9 0∧fr' 7 = .ptr b127 0∧fr' 8 = .bool v137∧fr' 9 = .bool ((v137&&(decide (zg.View.Epoch=f0.Truth.Epoch)))&&(decide
   (d8.To≠d8.K)))∧fr' 10 = .bool v164) rfl (fun Q349 hN350=>?_) ?_
 ·simp only [t8,a0d]
  simp only [qp (g:=190),B0,reduceIte,a9]
  refine jq (t:=((decide (d8.Kind=4))&&(!v137))) (fun hg351=>?_) (fun hg351=>?_)
  ·simp only [hg351,qp (g:=190),zk,f341,z9,qk,s5,s9,t5,qr,zu,B0,reduceIte,a9]
   refine qt (v := .int .i64 d8.To) rfl ?_
   simp only [hg351,qp (g:=190),zk,f341,z9,qk,s5,s9,t5,qr,zu,B0,reduceIte,a9]
   refine qt (v := .int .i64 d8.K) rfl ?_
   simp only [hg351,qp (g:=190),zk,yg,qk,ya,jf,zo,zc,qo,B0,reduceIte,a9]
   exact hN350 _ _ ⟨(t7 (t7 (t7 (t7 (t7 (t7 (t7 (t7 (t7 hS348))))))))),by rw [yk hg351]; simp only [B0,reduceIte,a9],f340,
     f341,f342,f343,f344,f345,f346⟩
  ·simp only [hg351,qp (g:=190),ku,jf,qk,zn,zc,qo,B0,reduceIte,a9]
   exact hN350 _ _ ⟨(t7 (t7 (t7 (t7 (t7 (t7 (t7 (t7 (t7 hS348))))))))),by rw [yj hg351]; simp only [B0,reduceIte,a9],f340,
     f341,f342,f343,f344,f345,f346⟩
 rintro fr352 h361 ⟨hS362,f353,f354,f355,f356,f357,f358,f359,f360⟩
 simp only [t9,a0c]
 simp only [f353,zv,qk,B0,reduceIte,a9]
 simp only [qp (g:=197),B0,reduceIte,a9]
 refine jq (t:=(((decide (d8.Kind=4))&&(!v137))&&(decide (d8.To≠d8.K)))) (fun hg363=>?_) (fun hg363=>?_)
 ·rw [iteT hg363] at hF219
  simp only [hg363,qp (g:=197),zk,f354,zu,B0,reduceIte,a9]
  refine qt (v := .agg [.int .i64 f0.Truth.Epoch,.int .i64 f0.Truth.Leader,d9,e8,f4]) ((zr (a0r _ _ _ hS362)).trans rfl) ?_
  simp only [hg363,qp (g:=197),zk,f355,z9,qk,s5,s9,t5,qr,zu,B0,reduceIte,a9]
  refine qt (v := .int .i64 d8.To) rfl ?_
  obtain ⟨c364,hv365,hS366⟩:=a1x (c:=c108) (os:=c116++(c120++(c124))) hv111 rfl hx104 z7 (Node.RI (x:=zg) hv117 hv121 hv125) (a1p (c1:=c116)
    (c2:=c120) (c3:=c124) (a0j (t7 (t7 (t7 hS362)))))
  have hv367:=a1s hv365
  obtain ⟨v368,hx369,hF370⟩:=qi hF219
  simp only [hg363,qp (g:=197),zk,y9,B0,reduceIte,a9]
  refine qc3 rfl (ql (jo (ql qs (ql qs (ql (a06 i8 (a0i hS366) rfl (fun _=>rfl) (fun _=>rfl)) (ql
    (SlN.snap hv367 _ hS366 rfl Node.RO) (ql (a06 l5 (a03 hS366) rfl (fun _=>rfl) (fun _=>rfl)) zh)))))) (ql qs zh)) (qhd
    (fun b hb=>decide_eq_true hb) f0 d8.To v368 hx369) ?_
  simp only [hg363,jf,qk,zo,zv,B0,reduceIte,a9]
  obtain ⟨v374,hx375,hF376⟩:=qi hF370
  refine wu 13 (fun fr' h'=>Sep h' lo ([Blk1 b1 [.int .i64 f0.Truth.Epoch,.int .i64 f0.Truth.Leader,d9,e8,f4] 28]++([Blk1 b9 [.int .i64 0,.int .i64 0,
    .nil,.nil,.nil] 28]++([Blk1 b127 [.int .i64 zg.View.Epoch,.int .i64 zg.View.Leader,v115,v119,v123,
    .int .i64 zg.Told] 68]++(i4++(c108++(i5++(c116++(c120++(c124 ++
    (S0))))))))))∧fr' 216 = .bool v374∧fr' 2 = .ptr b1 0∧fr' 3 = .ref [.int .i64 d8.Kind,.int .i64 d8.K,.int .i64 d8.To,
    .int .i64 d8.N] 0∧fr' 4 = .ptr b9 0∧fr' 7 = .ptr b127 0∧fr' 8 = .bool v137∧fr' 9 = .bool ((v137&&(decide (zg.View.Epoch=f0.Truth.Epoch)))&&(decide
    (d8.To≠d8.K)))∧fr' 10 = .bool v164) rfl (fun Q371 hN372=>?_) ?_
  ·simp only [t8,a0d]
   simp only [qp (g:=203),B0,reduceIte,a9]
   refine jq (t:=v368) (fun hg373=>?_) (fun hg373=>?_)
   ·rw [iteT hg373] at hx375
    simp only [hg373,qp (g:=203),zk,f354,z9,qk,s5,s9,t5,zd,zu,B0,reduceIte,a9]
    refine qt (v:=e8) ((jt (a0r _ _ _ hS362)).trans rfl) ?_
    simp only [hg373,qp (g:=203),zk,f355,z9,qk,s5,s9,t5,qr,zu,B0,reduceIte,a9]
    refine qt (v := .int .i64 d8.To) rfl ?_
    obtain ⟨x377,hx378,hF379⟩:=qi hx375
    simp only [hg373,qp (g:=203),zk,yv,B0,reduceIte,a9]
    refine qt (SlG.ia hv111 hx378) ?_
    obtain ⟨hp380,hF381⟩:=qnd hF379
    have hn382:=qse hp380 hx104 hx378
    obtain ⟨c383,cs384,os385,hv386,hR387,hS388⟩:=SlG.opn hv111 hx378 ((qgs hn382).trans z7) Node.RO.len (a0i hS362)
    obtain ⟨v390,c391,v394,c395,v398,c399,hv392,hv396,hv400,rfl,rfl⟩:=hR387
    have hS389:=Sep.no3 hS388
    simp only [hg373,qp (g:=203),zk,z9,qk,s5,s9,t5,zd,zu,B0,reduceIte,a9]
    refine qt (v := .int .i64 x377.View.Epoch) ((SlG.ld (o:=0) hv386 rfl hx378 hS389 (nle rfl)).trans rfl) ?_
    simp only [hg373,qp (g:=203),zk,f357,z9,qk,s5,s9,t5,zd,zu,B0,reduceIte,a9]
    refine qt (v := .int .i64 zg.View.Epoch) ((jt (a0r _ _ _ (a0v hS389))).trans rfl) ?_
    simp only [hg373,qp (g:=203),zk,yg,qk,k7,jf,zo,zc,qo,B0,reduceIte,a9]
    have e402:=qh hF381
    exact hN372 _ _ ⟨(t7 (t7 (t7 (t7 (t7 (t7 (t7 (t7 (t7 hS362))))))))),by rw [←e402]; simp only [B0,reduceIte,a9],f354,
      f355,f356,f357,f358,f359,f360⟩
   ·rw [iteF hg373] at hx375
    simp only [hg373,qp (g:=203),ku,jf,qk,zn,zc,qo,B0,reduceIte,a9]
    have e403:=qh hx375
    exact hN372 _ _ ⟨(t7 (t7 (t7 (t7 (t7 (t7 (t7 (t7 (t7 hS362))))))))),by rw [←e403]; simp only [B0,reduceIte,a9],f354,
      f355,f356,f357,f358,f359,f360⟩
  rintro fr404 h413 ⟨hS414,f405,f406,f407,f408,f409,f410,f411,f412⟩
  simp only [t9,a0c]
  simp only [f405,zv,qk,B0,reduceIte,a9]
  simp only [qp (g:=217),B0,reduceIte,a9]
  refine jq (t:=v374) (fun hg415=>?_) (fun hg415=>?_)
  ·rw [iteT hg415] at hF376
   simp only [hg415,qp (g:=217),zk,f407,z9,qk,s5,s9,t5,qr,zu,B0,reduceIte,a9]
   refine qt (v := .int .i64 d8.N) rfl ?_
   simp only [hg415,qp (g:=217),zk,y9,B0,reduceIte,a9]
   refine qc3 rfl (ql qs (ql qs (ql qs zh))) (qft (fun b hb=>decide_eq_true hb) d8.N 0 30 _ rfl) ?_
   simp only [hg415,jf,qk,zo,zv,zc,qme,qy,B0,reduceIte,a9]
   refine qu (t:=(kt d8.N 0 30)) (fun hc416=>?_) (fun hc416=>?_)
   ·rw [iteT hc416] at hF376
    simp only [q41,qe,qc,f406,qn,B0,reduceIte,a9]
    refine qg (v := .agg [.int .i64 f0.Truth.Epoch,.int .i64 f0.Truth.Leader,d9,e8,f4]) ((zr (a0r _ _ _ hS414)).trans rfl) ?_
    simp only [f407,qq,qb,s5,s9,t5,qr,qn,B0,reduceIte,a9]
    refine qg (v := .int .i64 d8.K) rfl ?_
    simp only [f407,qq,qb,s5,s9,t5,qr,qn,B0,reduceIte,a9]
    refine qg (v := .int .i64 d8.To) rfl ?_
    simp only [f407,qq,qb,s5,s9,t5,qr,qn,B0,reduceIte,a9]
    refine qg (v := .int .i64 d8.N) rfl ?_
    obtain ⟨c417,hv418,hS419⟩:=a1x (c:=c108) (os:=c116++(c120++(c124))) hv111 rfl hx104 z7 (Node.RI (x:=zg) hv117 hv121 hv125) (a1p (c1:=c116)
      (c2:=c120) (c3:=c124) (a0j (t7 (t7 (t7 hS414)))))
    have hv420:=a1s hv418
    obtain ⟨v421,hx422,hF423⟩:=qi hF376
    simp only [zi,B0,reduceIte,a9]
    refine wc rfl (qmp hW k f0 d9 i4 i8 e8 c417 hv420 f4 i5 l5 d8.K d8.To d8.N v421 hx422 (a03 (a0l (a03 hS419)))) ?_
    rintro _ h430 ⟨c424,c426,c428,rfl,hv425,hv427,hv429,hS431⟩
    simp only [f408,zp,B0,reduceIte,a9]
    refine zm (us:=[.int .i64 v421.Truth.Epoch,.int .i64 v421.Truth.Leader,d9,e8,f4]) rfl (cs':=[.int .i64 v421.Truth.Epoch,
      .int .i64 v421.Truth.Leader,d9,e8,
      f4]) (a0i hS431) hW rfl (qj rfl (qj rfl (qj (a0g hv425) (qj (a10 hv427) (qj (a0g hv429) zq))))) (nle rfl) rfl (fun h432 hS433=>?_)
    simp only [qd,qa,qw,B0,reduceIte,a9]
    have he:=qh hF423
    subst he
    refine jv (ql (j6 (bb:=b9) (oo:=0) (v := .agg [.int .i64 v421.Truth.Epoch,.int .i64 v421.Truth.Leader,d9,e8,
      f4]) (f408) ((zr (a0r _ _ _ hS433)).trans rfl)) (ql (k8 (v := .bool true) (rfl)) zh)) ?_
    exact ⟨d9,c424,c426,f4,c428,by first | trivial | rfl,hv425,hv427,hv429,(a0k (a0k (a0k (a0s (a0e (a0s (a0e (a0s (hS433)))))))))⟩
   rw [iteF hc416] at hF376
   simp only [qmf,qe,qc,f407,qq,qb,s5,s9,t5,qr,qn,B0,reduceIte,a9]
   refine qg (v := .int .i64 d8.Kind) rfl ?_
   simp only [qv,qb,k7,qd,B0,reduceIte,a9]
   refine jj 2 (fun fr' h'=>Sep h' lo ([Blk1 b1 [.int .i64 f0.Truth.Epoch,.int .i64 f0.Truth.Leader,d9,e8,f4] 28]++([Blk1 b9 [.int .i64 0,.int .i64 0,
     .nil,.nil,.nil] 28]++([Blk1 b127 [.int .i64 zg.View.Epoch,.int .i64 zg.View.Leader,v115,v119,v123,
     .int .i64 zg.Told] 68]++(i4++(c108++(i5++(c116++(c120++(c124++(S0))))))))))∧fr' 236 = .bool ((decide (d8.Kind=5))&&((v137&&(decide
     (zg.View.Epoch=f0.Truth.Epoch)))&&(decide (d8.To≠d8.K))))∧fr' 2 = .ptr b1 0∧fr' 3 = .ref [.int .i64 d8.Kind,.int .i64 d8.K,.int .i64 d8.To,
     .int .i64 d8.N] 0∧fr' 4 = .ptr b9 0∧fr' 7 = .ptr b127 0∧fr' 8 = .bool v137∧fr' 9 = .bool ((v137&&(decide (zg.View.Epoch=f0.Truth.Epoch)))&&(decide
     (d8.To≠d8.K)))∧fr' 10 = .bool v164) (fun Q434 hN435=>?_) ?_
   ·simp only [t8,a0d]
    simp only [qf (g:=234),B0,reduceIte,a9]
    refine zj (t:=(decide (d8.Kind=5))) (fun hg436=>?_) (fun hg436=>?_)
    ·simp only [hg436,qf (g:=234),zl,f411,qd,qx,qb,zo,qa,qo,B0,reduceIte,a9]
     exact hN435 _ _ ⟨(t7 (t7 (t7 (t7 (t7 (t7 (t7 (t7 (t7 hS414))))))))),by rw [yk hg436]; simp only [B0,reduceIte,a9],
       f406,f407,f408,f409,f410,f411,f412⟩
    ·simp only [hg436,qf (g:=234),jh,qx,qb,zn,qa,qo,B0,reduceIte,a9]
     exact hN435 _ _ ⟨(t7 (t7 (t7 (t7 (t7 (t7 (t7 (t7 (t7 hS414))))))))),by rw [yj hg436]; simp only [B0,reduceIte,a9],
       f406,f407,f408,f409,f410,f411,f412⟩
   rintro fr437 h446 ⟨hS447,f438,f439,f440,f441,f442,f443,f444,f445⟩
   simp only [t9,a0c]
   simp only [f438,qd,B0,reduceIte,a9]
   refine jj 2 (fun fr' h'=>Sep h' lo ([Blk1 b1 [.int .i64 f0.Truth.Epoch,.int .i64 f0.Truth.Leader,d9,e8,f4] 28]++([Blk1 b9 [.int .i64 0,.int .i64 0,
     .nil,.nil,.nil] 28]++([Blk1 b127 [.int .i64 zg.View.Epoch,.int .i64 zg.View.Leader,v115,v119,v123,
     .int .i64 zg.Told] 68]++(i4++(c108++(i5++(c116++(c120++(c124++(S0))))))))))∧fr' 239 = .bool (((decide (d8.Kind=5))&&((v137&&(decide
     (zg.View.Epoch=f0.Truth.Epoch)))&&(decide (d8.To≠d8.K))))&&v164)∧fr' 2 = .ptr b1 0∧fr' 3 = .ref [.int .i64 d8.Kind,.int .i64 d8.K,.int .i64 d8.To,
     .int .i64 d8.N] 0∧fr' 4 = .ptr b9 0∧fr' 7 = .ptr b127 0∧fr' 8 = .bool v137∧fr' 9 = .bool ((v137&&(decide (zg.View.Epoch=f0.Truth.Epoch)))&&(decide
     (d8.To≠d8.K)))∧fr' 10 = .bool v164) (fun Q448 hN449=>?_) ?_
   ·simp only [t8,a0d]
    simp only [qf (g:=237),B0,reduceIte,a9]
    refine zj (t:=((decide (d8.Kind=5))&&((v137&&(decide (zg.View.Epoch=f0.Truth.Epoch)))&&(decide (d8.To≠d8.K))))) (fun hg450=>?_)
      (fun hg450=>?_)
    ·simp only [hg450,qf (g:=237),zl,f445,qd,qx,qb,zo,qa,qo,B0,reduceIte,a9]
     exact hN449 _ _ ⟨(t7 (t7 (t7 (t7 (t7 (t7 (t7 (t7 (t7 hS447))))))))),by rw [yk hg450]; simp only [B0,reduceIte,a9],
       f439,f440,f441,f442,f443,f444,f445⟩
    ·simp only [hg450,qf (g:=237),jh,qx,qb,zn,qa,qo,B0,reduceIte,a9]
     exact hN449 _ _ ⟨(t7 (t7 (t7 (t7 (t7 (t7 (t7 (t7 (t7 hS447))))))))),by rw [yj hg450]; simp only [B0,reduceIte,a9],
       f439,f440,f441,f442,f443,f444,f445⟩
   rintro fr451 h460 ⟨hS461,f452,f453,f454,f455,f456,f457,f458,f459⟩
   simp only [t9,a0c]
   simp only [f452,qd,qa,qmx,qy,B0,reduceIte,a9]
   refine qu (t:=(((decide (d8.Kind=5))&&((v137&&(decide (zg.View.Epoch=f0.Truth.Epoch)))&&(decide (d8.To≠d8.K))))&&v164)) (fun hc462=>?_)
     (fun hc462=>?_)
   ·rw [iteT hc462] at hF376
    simp only [qok,qe,qc,f453,qn,B0,reduceIte,a9]
    refine qg (v := .agg [.int .i64 f0.Truth.Epoch,.int .i64 f0.Truth.Leader,d9,e8,f4]) ((zr (a0r _ _ _ hS461)).trans rfl) ?_
    simp only [f454,qq,qb,s5,s9,t5,qr,qn,B0,reduceIte,a9]
    refine qg (v := .int .i64 d8.K) rfl ?_
    simp only [f454,qq,qb,s5,s9,t5,qr,qn,B0,reduceIte,a9]
    refine qg (v := .int .i64 d8.To) rfl ?_
    obtain ⟨c463,hv464,hS465⟩:=a1x (c:=c108) (os:=c116++(c120++(c124))) hv111 rfl hx104 z7 (Node.RI (x:=zg) hv117 hv121 hv125) (a1p (c1:=c116)
      (c2:=c120) (c3:=c124) (a0j (t7 (t7 (t7 hS461)))))
    have hv466:=a1s hv464
    obtain ⟨v467,hx468,hF469⟩:=qi hF376
    simp only [zi,B0,reduceIte,a9]
    refine wc rfl (ue hW k f0 d9 i4 i8 e8 c463 hv466 f4 i5 l5 d8.K d8.To false v467 hx468 (a03 (a0l (a03 hS465)))) ?_
    rintro _ h478 ⟨v470,c471,c474,c476,rfl,hv472,hv475,hv477,hS479⟩
    simp only [f455,zp,B0,reduceIte,a9]
    refine zm (us:=[.int .i64 v467.Truth.Epoch,.int .i64 v467.Truth.Leader,v470,e8,f4]) rfl (cs':=[.int .i64 v467.Truth.Epoch,
      .int .i64 v467.Truth.Leader,v470,e8,
      f4]) (a0i hS479) hW rfl (qj rfl (qj rfl (qj (a0g hv472) (qj (a10 hv475) (qj (a0g hv477) zq))))) (nle rfl) rfl (fun h480 hS481=>?_)
    simp only [qd,qa,qw,B0,reduceIte,a9]
    have he:=qh hF469
    subst he
    refine jv (ql (j6 (bb:=b9) (oo:=0) (v := .agg [.int .i64 v467.Truth.Epoch,.int .i64 v467.Truth.Leader,v470,e8,
      f4]) (f455) ((zr (a0r _ _ _ hS481)).trans rfl)) (ql (k8 (v := .bool true) (rfl)) zh)) ?_
    exact ⟨v470,c471,c474,f4,c476,by first | trivial | rfl,hv472,hv475,hv477,(a0k (a0k (a0k (a0s (a0e (a0s (a0e (a0s (hS481)))))))))⟩
   rw [iteF hc462] at hF376
   simp only [qmg,qe,js,f454,z9,qk,s5,s9,t5,qr,zu,B0,reduceIte,a9]
   refine qt (v := .int .i64 d8.Kind) rfl ?_
   simp only [yg,qk,k7,zv,B0,reduceIte,a9]
   refine wu 2 (fun fr' h'=>Sep h' lo ([Blk1 b1 [.int .i64 f0.Truth.Epoch,.int .i64 f0.Truth.Leader,d9,e8,f4] 28]++([Blk1 b9 [.int .i64 0,.int .i64 0,
     .nil,.nil,.nil] 28]++([Blk1 b127 [.int .i64 zg.View.Epoch,.int .i64 zg.View.Leader,v115,v119,v123,
     .int .i64 zg.Told] 68]++(i4++(c108++(i5++(c116++(c120++(c124++(S0))))))))))∧fr' 252 = .bool ((decide (d8.Kind=6))&&((v137&&(decide
     (zg.View.Epoch=f0.Truth.Epoch)))&&(decide (d8.To≠d8.K))))∧fr' 2 = .ptr b1 0∧fr' 3 = .ref [.int .i64 d8.Kind,.int .i64 d8.K,.int .i64 d8.To,
     .int .i64 d8.N] 0∧fr' 4 = .ptr b9 0∧fr' 7 = .ptr b127 0∧fr' 8 = .bool v137∧fr' 10 = .bool v164) rfl (fun Q482 hN483=>?_) ?_
   ·simp only [t8,a0d]
    simp only [qp (g:=250),B0,reduceIte,a9]
    refine jq (t:=(decide (d8.Kind=6))) (fun hg484=>?_) (fun hg484=>?_)
    ·simp only [hg484,qp (g:=250),zk,f458,zv,qk,jf,zo,zc,qo,B0,reduceIte,a9]
     exact hN483 _ _ ⟨(t7 (t7 (t7 (t7 (t7 (t7 (t7 (t7 (t7 hS461))))))))),by rw [yk hg484]; simp only [B0,reduceIte,a9],
       f453,f454,f455,f456,f457,f459⟩
    ·simp only [hg484,qp (g:=250),ku,jf,qk,zn,zc,qo,B0,reduceIte,a9]
     exact hN483 _ _ ⟨(t7 (t7 (t7 (t7 (t7 (t7 (t7 (t7 (t7 hS461))))))))),by rw [yj hg484]; simp only [B0,reduceIte,a9],
       f453,f454,f455,f456,f457,f459⟩
   rintro fr485 h493 ⟨hS494,f486,f487,f488,f489,f490,f491,f492⟩
   simp only [t9,a0c]
   simp only [f486,zv,qk,B0,reduceIte,a9]
   refine wu 3 (fun fr' h'=>Sep h' lo ([Blk1 b1 [.int .i64 f0.Truth.Epoch,.int .i64 f0.Truth.Leader,d9,e8,f4] 28]++([Blk1 b9 [.int .i64 0,.int .i64 0,
     .nil,.nil,.nil] 28]++([Blk1 b127 [.int .i64 zg.View.Epoch,.int .i64 zg.View.Leader,v115,v119,v123,
     .int .i64 zg.Told] 68]++(i4++(c108++(i5++(c116++(c120++(c124++(S0))))))))))∧fr' 256 = .bool (((decide (d8.Kind=6))&&((v137&&(decide
     (zg.View.Epoch=f0.Truth.Epoch)))&&(decide (d8.To≠d8.K))))&&(!v164))∧fr' 2 = .ptr b1 0∧fr' 3 = .ref [.int .i64 d8.Kind,.int .i64 d8.K,
     .int .i64 d8.To,.int .i64 d8.N] 0∧fr' 4 = .ptr b9 0∧fr' 7 = .ptr b127 0∧fr' 8 = .bool v137) rfl (fun Q495 hN496=>?_) ?_
   ·simp only [t8,a0d]
    simp only [qp (g:=253),B0,reduceIte,a9]
    refine jq (t:=((decide (d8.Kind=6))&&((v137&&(decide (zg.View.Epoch=f0.Truth.Epoch)))&&(decide (d8.To≠d8.K))))) (fun hg497=>?_)
      (fun hg497=>?_)
    ·simp only [hg497,qp (g:=253),zk,f492,zv,qk,qeu,kz,jf,zo,zc,qo,B0,reduceIte,a9]
     exact hN496 _ _ ⟨(t7 (t7 (t7 (t7 (t7 (t7 (t7 (t7 (t7 hS494))))))))),by rw [yk hg497]; simp only [B0,reduceIte,a9],
       f487,f488,f489,f490,f491⟩
    ·simp only [hg497,qp (g:=253),ku,jf,qk,zn,zc,qo,B0,reduceIte,a9]
     exact hN496 _ _ ⟨(t7 (t7 (t7 (t7 (t7 (t7 (t7 (t7 (t7 hS494))))))))),by rw [yj hg497]; simp only [B0,reduceIte,a9],
       f487,f488,f489,f490,f491⟩
   rintro fr498 h505 ⟨hS506,f499,f500,f501,f502,f503,f504⟩
   simp only [t9,a0c]
   simp only [f499,zv,qk,B0,reduceIte,a9]
   obtain ⟨v510,hx511,hF512⟩:=qi hF376
   refine wu 10 (fun fr' h'=>Sep h' lo ([Blk1 b1 [.int .i64 f0.Truth.Epoch,.int .i64 f0.Truth.Leader,d9,e8,f4] 28]++([Blk1 b9 [.int .i64 0,.int .i64 0,
     .nil,.nil,.nil] 28]++([Blk1 b127 [.int .i64 zg.View.Epoch,.int .i64 zg.View.Leader,v115,v119,v123,
     .int .i64 zg.Told] 68]++(i4++(c108++(i5++(c116++(c120++(c124 ++
     (S0))))))))))∧fr' 267 = .bool v510∧fr' 2 = .ptr b1 0∧fr' 3 = .ref [.int .i64 d8.Kind,.int .i64 d8.K,.int .i64 d8.To,
     .int .i64 d8.N] 0∧fr' 4 = .ptr b9 0∧fr' 7 = .ptr b127 0∧fr' 8 = .bool v137) rfl (fun Q507 hN508=>?_) ?_
   ·simp only [t8,a0d]
    simp only [qp (g:=257),B0,reduceIte,a9]
    refine jq (t:=(((decide (d8.Kind=6))&&((v137&&(decide (zg.View.Epoch=f0.Truth.Epoch)))&&(decide (d8.To≠d8.K))))&&(!v164)))
      (fun hg509=>?_) (fun hg509=>?_)
    ·rw [iteT hg509] at hx511
     simp only [hg509,qp (g:=257),zk,f503,z9,qk,s5,s9,t5,zd,zu,B0,reduceIte,a9]
     refine qt (v:=v123) ((jt (a0r _ _ _ (a0k hS506))).trans rfl) ?_
     simp only [hg509,qp (g:=257),zk,f501,z9,qk,s5,s9,t5,qr,zu,B0,reduceIte,a9]
     refine qt (v := .int .i64 d8.To) rfl ?_
     obtain ⟨x513,hx514,hF515⟩:=qi hx511
     simp only [hg509,qp (g:=257),zk,yv,B0,reduceIte,a9]
     obtain ⟨b516,hb517⟩:=a13 hv125 (ka hx514)
     refine qt (a2u hv125 hb517 hx514) ?_
     simp only [hg509,qp (g:=257),zk,zu,B0,reduceIte,a9]
     refine qt (v := .int .i64 x513) ((SlF.ld (o:=0) hv125 (t7 hS506) hb517 hx514 (fun _=>rfl) (nle rfl)).trans rfl) ?_
     simp only [hg509,qp (g:=257),zk,f503,z9,qk,s5,s9,t5,zd,zu,B0,reduceIte,a9]
     refine qt (v := .int .i64 zg.Told) ((jt (a0r _ _ _ (a0k hS506))).trans rfl) ?_
     simp only [hg509,qp (g:=257),zk,yg,qk,qfg,jf,zo,zc,qo,B0,reduceIte,a9]
     have e518:=qh hF515
     exact hN508 _ _ ⟨(t7 (t7 (t7 (t7 (t7 (t7 (t7 (t7 (t7 hS506))))))))),by rw [←e518]; simp only [B0,reduceIte,a9],f500,
       f501,f502,f503,f504⟩
    ·rw [iteF hg509] at hx511
     simp only [hg509,qp (g:=257),ku,jf,qk,zn,zc,qo,B0,reduceIte,a9]
     have e519:=qh hx511
     exact hN508 _ _ ⟨(t7 (t7 (t7 (t7 (t7 (t7 (t7 (t7 (t7 hS506))))))))),by rw [←e519]; simp only [B0,reduceIte,a9],f500,
       f501,f502,f503,f504⟩
   rintro fr520 h527 ⟨hS528,f521,f522,f523,f524,f525,f526⟩
   simp only [t9,a0c]
   simp only [f521,zv,qk,B0,reduceIte,a9]
   simp only [qp (g:=268),B0,reduceIte,a9]
   refine jq (t:=v510) (fun hg529=>?_) (fun hg529=>?_)
   ·rw [iteT hg529] at hF512
    simp only [hg529,qp (g:=268),zk,f525,qb0,qk,s5,s9,t5,zd,uw,B0,reduceIte,a9]
    refine qcy (Sep.ltk (a0k hS461)) ?_
    refine qt (v:=v123) ((jt (a0r _ _ _ (a0k hS528))).trans rfl) ?_
    simp only [hg529,qp (g:=268),zk,f523,qb0,qk,s5,s9,t5,qr,uw,qcs,B0,reduceIte,
      a9]
    refine qt (v := .int .i64 d8.To) rfl ?_
    obtain ⟨x530,hx531,hF532⟩:=qi hF512
    simp only [hg529,qp (g:=268),zk,qr1,B0,reduceIte,a9]
    obtain ⟨b533,hb534⟩:=a13 hv125 (ka hx531)
    refine qt (a2u hv125 hb534 hx531) ?_
    simp only [hg529,qp (g:=268),zk,uw,B0,reduceIte,a9]
    refine qcy (SlF.ltk hv125 hb534 (t7 hS461)) ?_
    refine qt (v := .int .i64 x530) ((SlF.ld (o:=0) hv125 (t7 hS528) hb534 hx531 (fun _=>rfl) (nle rfl)).trans rfl) ?_
    simp only [hg529,qp (g:=268),zk,f525,zu,B0,reduceIte,a9]
    refine qt (v := .agg [.int .i64 zg.View.Epoch,.int .i64 zg.View.Leader,v115,v119,v123,
      .int .i64 zg.Told]) ((zr (a0r _ _ _ (a0k hS528))).trans rfl) ?_
    obtain ⟨v535,hx536,hF537⟩:=qi hF532
    simp only [hg529,qp (g:=268),zk,uf,B0,reduceIte,a9]
    refine qoz rfl (ql (jo (ql qs (ql qs (ql (a06 hv117 (a0v hS528) rfl (fun _=>rfl) (fun _=>rfl)) (ql (a06 hv121
      (a0j hS528) rfl (fun _=>rfl) (fun _=>rfl)) (ql (a06 hv125 (t7 hS528) rfl (fun _=>rfl) (fun _=>rfl)) (ql qs zh))))))) zh)
      (qey (fun b hb=>decide_eq_true hb) zg v535 hx536) ?_
    simp only [hg529,qp (g:=268),zk,yg,qk,qfg,jf,zo,zv,zc,qha,qy,B0,reduceIte,a9]
    refine qu (t:=(decide (v535≤x530))) (fun hc538=>?_) (fun hc538=>?_)
    ·rw [iteT hc538] at hF537
     simp only [ql5,qe,qc,f522,qn,B0,reduceIte,a9]
     refine qg (v := .agg [.int .i64 f0.Truth.Epoch,.int .i64 f0.Truth.Leader,d9,e8,f4]) ((zr (a0r _ _ _ hS528)).trans rfl) ?_
     simp only [f523,qq,qb,s5,s9,t5,qr,qn,B0,reduceIte,a9]
     refine qg (v := .int .i64 d8.K) rfl ?_
     simp only [f523,qq,qb,s5,s9,t5,qr,qn,B0,reduceIte,a9]
     refine qg (v := .int .i64 d8.To) rfl ?_
     obtain ⟨c539,hv540,hS541⟩:=a1x (c:=c108) (os:=c116++(c120++(c124))) hv111 rfl hx104 z7 (Node.RI (x:=zg) hv117 hv121 hv125) (a1p
       (c1:=c116) (c2:=c120) (c3:=c124) (a0j (t7 (t7 (t7 hS528)))))
     have hv542:=a1s hv540
     obtain ⟨v543,hx544,hF545⟩:=qi hF537
     simp only [zi,B0,reduceIte,a9]
     refine wc rfl (ue hW k f0 d9 i4 i8 e8 c539 hv542 f4 i5 l5 d8.K d8.To true v543 hx544 (a03 (a0l (a03 hS541)))) ?_
     rintro _ h554 ⟨v546,c547,c550,c552,rfl,hv548,hv551,hv553,hS555⟩
     simp only [f524,zp,B0,reduceIte,a9]
     refine zm (us:=[.int .i64 v543.Truth.Epoch,.int .i64 v543.Truth.Leader,v546,e8,f4]) rfl (cs':=[.int .i64 v543.Truth.Epoch,
       .int .i64 v543.Truth.Leader,v546,e8,
       f4]) (a0i hS555) hW rfl (qj rfl (qj rfl (qj (a0g hv548) (qj (a10 hv551) (qj (a0g hv553) zq))))) (nle rfl) rfl
       (fun h556 hS557=>?_)
     simp only [qd,qa,qw,B0,reduceIte,a9]
     have he:=qh hF545
     subst he
     refine jv (ql (j6 (bb:=b9) (oo:=0) (v := .agg [.int .i64 v543.Truth.Epoch,.int .i64 v543.Truth.Leader,v546,e8,
       f4]) (f524) ((zr (a0r _ _ _ hS557)).trans rfl)) (ql (k8 (v := .bool true) (rfl)) zh)) ?_
     exact ⟨v546,c547,c550,f4,c552,by first | trivial | rfl,hv548,hv551,hv553,(a0k (a0k (a0k (a0s (a0e (a0s (a0e (a0s (hS557)))))))))⟩
    rw [iteF hc538] at hF537
    simp only [qg7,qe,qc,f523,qq,qb,s5,s9,t5,qr,qn,B0,reduceIte,a9]
    refine qg (v := .int .i64 d8.Kind) rfl ?_
    simp only [qv,qb,k7,qd,B0,reduceIte,a9]
    refine jj 2 (fun fr' h'=>Sep h' lo ([Blk1 b1 [.int .i64 f0.Truth.Epoch,.int .i64 f0.Truth.Leader,d9,e8,f4] 28]++([Blk1 b9 [.int .i64 0,.int .i64 0,
      .nil,.nil,.nil] 28]++(i4++(c108++(i5++(c116++(c120++(c124++(S0)))))))))∧fr' 291 = .bool ((decide
      (d8.Kind=7))&&v137)∧fr' 2 = .ptr b1 0∧fr' 3 = .ref [.int .i64 d8.Kind,.int .i64 d8.K,.int .i64 d8.To,
      .int .i64 d8.N] 0∧fr' 4 = .ptr b9 0) (fun Q558 hN559=>?_) ?_
    ·simp only [t8,a0d]
     simp only [qf (g:=289),B0,reduceIte,a9]
     refine zj (t:=(decide (d8.Kind=7))) (fun hg560=>?_) (fun hg560=>?_)
     ·simp only [hg560,qf (g:=289),zl,f526,qd,qx,qb,zo,qa,qo,B0,reduceIte,a9]
      exact hN559 _ _ ⟨(a0j (a0j (a0j (a0j (a0j (a0j (a0j (a0j (a0s (a0k hS528)))))))))),by rw [yk hg560]; simp only [B0,reduceIte,
        a9],f522,f523,f524⟩
     ·simp only [hg560,qf (g:=289),jh,qx,qb,zn,qa,qo,B0,reduceIte,a9]
      exact hN559 _ _ ⟨(a0j (a0j (a0j (a0j (a0j (a0j (a0j (a0j (a0s (a0k hS528)))))))))),by rw [yj hg560]; simp only [B0,reduceIte,
        a9],f522,f523,f524⟩
    rintro fr561 h566 ⟨hS567,f562,f563,f564,f565⟩
    simp only [t9,a0c]
    simp only [f562,qd,qa,qhi,qy,B0,reduceIte,a9]
    refine qu (t:=((decide (d8.Kind=7))&&v137)) (fun hc568=>?_) (fun hc568=>?_)
    ·rw [iteT hc568] at hF537
     simp only [qg4,qe,qc,f563,qn,B0,reduceIte,a9]
     refine qg (v := .agg [.int .i64 f0.Truth.Epoch,.int .i64 f0.Truth.Leader,d9,e8,f4]) ((zr (a0r _ _ _ hS567)).trans rfl) ?_
     simp only [f564,qq,qb,s5,s9,t5,qr,qn,B0,reduceIte,a9]
     refine qg (v := .int .i64 d8.K) rfl ?_
     obtain ⟨c569,hv570,hS571⟩:=a1x (c:=c108) (os:=c116++(c120++(c124))) hv111 rfl hx104 z7 (Node.RI (x:=zg) hv117 hv121 hv125) (a1p
       (c1:=c116) (c2:=c120) (c3:=c124) (a0v (a0j (a0j (a0j hS567)))))
     have hv572:=a1s hv570
     obtain ⟨v573,hx574,hF575⟩:=qi hF537
     simp only [zi,B0,reduceIte,a9]
     refine wc rfl (qal hW f0 d9 i4 i8 e8 c569 hv572 f4 i5 l5 d8.K v573 hx574 (a0i (a0l (a0i hS571)))) ?_
     rintro _ h584 ⟨c576,c578,v580,c581,rfl,hv577,hv579,hv582,hS585⟩
     simp only [qb7,qb,qcb,qb1,f565,zp,B0,reduceIte,a9]
     refine zm (us:=[.int .i64 v573.1.Truth.Epoch,.int .i64 v573.1.Truth.Leader,d9,e8,v580]) rfl (cs':=[.int .i64 v573.1.Truth.Epoch,
       .int .i64 v573.1.Truth.Leader,d9,e8,
       v580]) (a0i hS585) hW rfl (qj rfl (qj rfl (qj (a0g hv577) (qj (a10 hv579) (qj (a0g hv582) zq))))) (nle rfl) rfl
       (fun h586 hS587=>?_)
     simp only [qd,qa,qw,B0,reduceIte,a9]
     have he:=qh hF575
     subst he
     refine jv (ql (j6 (bb:=b9) (oo:=0) (v := .agg [.int .i64 v573.1.Truth.Epoch,.int .i64 v573.1.Truth.Leader,d9,e8,
       v580]) (f565) ((zr (a0r _ _ _ hS587)).trans rfl)) (ql (k8 (v := .bool v573.2) (rfl)) zh)) ?_
     exact ⟨d9,c576,c578,v580,c581,by first | trivial | rfl,hv577,hv579,hv582,(a0k (a0k (a0k (a0s (a0e (a0s (hS587)))))))⟩
    rw [iteF hc568] at hF537
    simp only [qe,qc,f563,qn,B0,reduceIte,a9]
    refine qg (v := .agg [.int .i64 f0.Truth.Epoch,.int .i64 f0.Truth.Leader,d9,e8,f4]) ((zr (a0r _ _ _ hS567)).trans rfl) ?_
    simp only [f565,zp,B0,reduceIte,a9]
    refine zm (us:=[.int .i64 f0.Truth.Epoch,.int .i64 f0.Truth.Leader,d9,e8,f4]) rfl (cs':=[.int .i64 f0.Truth.Epoch,.int .i64 f0.Truth.Leader,
      d9,e8,f4]) (a0l hS567) hW rfl (qj rfl (qj rfl (qj (a0g i8) (qj (a4h hv111) (qj (a0g l5) zq))))) (nle rfl) rfl
      (fun h588 hS589=>?_)
    simp only [qd,qa,qw,B0,reduceIte,a9]
    obtain ⟨c590,hv591,hS592⟩:=a1x (c:=c108) (os:=c116++(c120++(c124))) hv111 rfl hx104 z7 (Node.RI (x:=zg) hv117 hv121 hv125) (a1p (c1:=c116)
      (c2:=c120) (c3:=c124) (a0v (a0j (a0j (a0j hS589)))))
    have hv593:=a1s hv591
    have he:=qh hF537
    subst he
    refine jv (ql (j6 (bb:=b9) (oo:=0) (v := .agg [.int .i64 f0.Truth.Epoch,.int .i64 f0.Truth.Leader,d9,e8,
      f4]) (f565) ((zr (a0r _ _ _ (a0l hS592))).trans rfl)) (ql (k8 (v := .bool false) (rfl)) zh)) ?_
    exact ⟨d9,i4,c590,f4,i5,by first | trivial | rfl,i8,hv593,l5,(a0k (a0l (a0k (a0s (a0l (a0s (a0l hS592)))))))⟩
   rw [iteF hg529] at hF512
   simp only [hg529,qp (g:=268),ku,jf,qk,zn,zv,zc,qha,qy,qcl,qg7,qe,qc,f523,qq,
     qb,s5,s9,t5,qr,qn,B0,reduceIte,a9]
   refine qg (v := .int .i64 d8.Kind) rfl ?_
   simp only [qv,qb,k7,qd,B0,reduceIte,a9]
   refine jj 2 (fun fr' h'=>Sep h' lo ([Blk1 b1 [.int .i64 f0.Truth.Epoch,.int .i64 f0.Truth.Leader,d9,e8,f4] 28]++([Blk1 b9 [.int .i64 0,.int .i64 0,
     .nil,.nil,.nil] 28]++(i4++(c108++(i5++(c116++(c120++(c124++(S0)))))))))∧fr' 291 = .bool ((decide
     (d8.Kind=7))&&v137)∧fr' 2 = .ptr b1 0∧fr' 3 = .ref [.int .i64 d8.Kind,.int .i64 d8.K,.int .i64 d8.To,
     .int .i64 d8.N] 0∧fr' 4 = .ptr b9 0) (fun Q594 hN595=>?_) ?_
   ·simp only [t8,a0d]
    simp only [qf (g:=289),B0,reduceIte,a9]
    refine zj (t:=(decide (d8.Kind=7))) (fun hg596=>?_) (fun hg596=>?_)
    ·simp only [hg596,qf (g:=289),zl,f526,qd,qx,qb,zo,qa,qo,B0,reduceIte,a9]
     exact hN595 _ _ ⟨(a0j (a0j (a0j (a0j (a0j (a0j (a0j (a0j (a0s (a0k hS528)))))))))),by rw [yk hg596]; simp only [B0,reduceIte,
       a9],f522,f523,f524⟩
    ·simp only [hg596,qf (g:=289),jh,qx,qb,zn,qa,qo,B0,reduceIte,a9]
     exact hN595 _ _ ⟨(a0j (a0j (a0j (a0j (a0j (a0j (a0j (a0j (a0s (a0k hS528)))))))))),by rw [yj hg596]; simp only [B0,reduceIte,
       a9],f522,f523,f524⟩
   rintro fr597 h602 ⟨hS603,f598,f599,f600,f601⟩
   simp only [t9,a0c]
   simp only [f598,qd,qa,qhi,qy,B0,reduceIte,a9]
   refine qu (t:=((decide (d8.Kind=7))&&v137)) (fun hc604=>?_) (fun hc604=>?_)
   ·rw [iteT hc604] at hF512
    simp only [qg4,qe,qc,f599,qn,B0,reduceIte,a9]
    refine qg (v := .agg [.int .i64 f0.Truth.Epoch,.int .i64 f0.Truth.Leader,d9,e8,f4]) ((zr (a0r _ _ _ hS603)).trans rfl) ?_
    simp only [f600,qq,qb,s5,s9,t5,qr,qn,B0,reduceIte,a9]
    refine qg (v := .int .i64 d8.K) rfl ?_
    obtain ⟨c605,hv606,hS607⟩:=a1x (c:=c108) (os:=c116++(c120++(c124))) hv111 rfl hx104 z7 (Node.RI (x:=zg) hv117 hv121 hv125) (a1p (c1:=c116)
      (c2:=c120) (c3:=c124) (a0v (a0j (a0j (a0j hS603)))))
    have hv608:=a1s hv606
    obtain ⟨v609,hx610,hF611⟩:=qi hF512
    simp only [zi,B0,reduceIte,a9]
    refine wc rfl (qal hW f0 d9 i4 i8 e8 c605 hv608 f4 i5 l5 d8.K v609 hx610 (a0i (a0l (a0i hS607)))) ?_
    rintro _ h620 ⟨c612,c614,v616,c617,rfl,hv613,hv615,hv618,hS621⟩
    simp only [qb7,qb,qcb,qb1,f601,zp,B0,reduceIte,a9]
    refine zm (us:=[.int .i64 v609.1.Truth.Epoch,.int .i64 v609.1.Truth.Leader,d9,e8,v616]) rfl (cs':=[.int .i64 v609.1.Truth.Epoch,
      .int .i64 v609.1.Truth.Leader,d9,e8,
      v616]) (a0i hS621) hW rfl (qj rfl (qj rfl (qj (a0g hv613) (qj (a10 hv615) (qj (a0g hv618) zq))))) (nle rfl) rfl (fun h622 hS623=>?_)
    simp only [qd,qa,qw,B0,reduceIte,a9]
    have he:=qh hF611
    subst he
    refine jv (ql (j6 (bb:=b9) (oo:=0) (v := .agg [.int .i64 v609.1.Truth.Epoch,.int .i64 v609.1.Truth.Leader,d9,e8,
      v616]) (f601) ((zr (a0r _ _ _ hS623)).trans rfl)) (ql (k8 (v := .bool v609.2) (rfl)) zh)) ?_
    exact ⟨d9,c612,c614,v616,c617,by first | trivial | rfl,hv613,hv615,hv618,(a0k (a0k (a0k (a0s (a0e (a0s (hS623)))))))⟩
   rw [iteF hc604] at hF512
   simp only [qe,qc,f599,qn,B0,reduceIte,a9]
   refine qg (v := .agg [.int .i64 f0.Truth.Epoch,.int .i64 f0.Truth.Leader,d9,e8,f4]) ((zr (a0r _ _ _ hS603)).trans rfl) ?_
   simp only [f601,zp,B0,reduceIte,a9]
   refine zm (us:=[.int .i64 f0.Truth.Epoch,.int .i64 f0.Truth.Leader,d9,e8,f4]) rfl (cs':=[.int .i64 f0.Truth.Epoch,.int .i64 f0.Truth.Leader,
     d9,e8,f4]) (a0l hS603) hW rfl (qj rfl (qj rfl (qj (a0g i8) (qj (a4h hv111) (qj (a0g l5) zq))))) (nle rfl) rfl
     (fun h624 hS625=>?_)
   simp only [qd,qa,qw,B0,reduceIte,a9]
   obtain ⟨c626,hv627,hS628⟩:=a1x (c:=c108) (os:=c116++(c120++(c124))) hv111 rfl hx104 z7 (Node.RI (x:=zg) hv117 hv121 hv125) (a1p (c1:=c116)
     (c2:=c120) (c3:=c124) (a0v (a0j (a0j (a0j hS625)))))
   have hv629:=a1s hv627
   have he:=qh hF512
   subst he
   refine jv (ql (j6 (bb:=b9) (oo:=0) (v := .agg [.int .i64 f0.Truth.Epoch,.int .i64 f0.Truth.Leader,d9,e8,
     f4]) (f601) ((zr (a0r _ _ _ (a0l hS628))).trans rfl)) (ql (k8 (v := .bool false) (rfl)) zh)) ?_
   exact ⟨d9,i4,c626,f4,i5,by first | trivial | rfl,i8,hv629,l5,(a0k (a0l (a0k (a0s (a0l (a0s (a0l hS628)))))))⟩
  rw [iteF hg415] at hF376
  simp only [hg415,qp (g:=217),ku,jf,qk,zn,zv,zc,qme,qy,qcl,qmf,qe,qc,f407,qq,
    qb,s5,s9,t5,qr,qn,B0,reduceIte,a9]
  refine qg (v := .int .i64 d8.Kind) rfl ?_
  simp only [qv,qb,k7,qd,B0,reduceIte,a9]
  refine jj 2 (fun fr' h'=>Sep h' lo ([Blk1 b1 [.int .i64 f0.Truth.Epoch,.int .i64 f0.Truth.Leader,d9,e8,f4] 28]++([Blk1 b9 [.int .i64 0,.int .i64 0,
    .nil,.nil,.nil] 28]++([Blk1 b127 [.int .i64 zg.View.Epoch,.int .i64 zg.View.Leader,v115,v119,v123,
    .int .i64 zg.Told] 68]++(i4++(c108++(i5++(c116++(c120++(c124++(S0))))))))))∧fr' 236 = .bool ((decide (d8.Kind=5))&&((v137&&(decide
    (zg.View.Epoch=f0.Truth.Epoch)))&&(decide (d8.To≠d8.K))))∧fr' 2 = .ptr b1 0∧fr' 3 = .ref [.int .i64 d8.Kind,.int .i64 d8.K,.int .i64 d8.To,
    .int .i64 d8.N] 0∧fr' 4 = .ptr b9 0∧fr' 7 = .ptr b127 0∧fr' 8 = .bool v137∧fr' 9 = .bool ((v137&&(decide (zg.View.Epoch=f0.Truth.Epoch)))&&(decide
    (d8.To≠d8.K)))∧fr' 10 = .bool v164) (fun Q630 hN631=>?_) ?_
  ·simp only [t8,a0d]
   simp only [qf (g:=234),B0,reduceIte,a9]
   refine zj (t:=(decide (d8.Kind=5))) (fun hg632=>?_) (fun hg632=>?_)
   ·simp only [hg632,qf (g:=234),zl,f411,qd,qx,qb,zo,qa,qo,B0,reduceIte,a9]
    exact hN631 _ _ ⟨(t7 (t7 (t7 (t7 (t7 (t7 (t7 (t7 (t7 hS414))))))))),by rw [yk hg632]; simp only [B0,reduceIte,a9],f406,
      f407,f408,f409,f410,f411,f412⟩
   ·simp only [hg632,qf (g:=234),jh,qx,qb,zn,qa,qo,B0,reduceIte,a9]
    exact hN631 _ _ ⟨(t7 (t7 (t7 (t7 (t7 (t7 (t7 (t7 (t7 hS414))))))))),by rw [yj hg632]; simp only [B0,reduceIte,a9],f406,
      f407,f408,f409,f410,f411,f412⟩
  rintro fr633 h642 ⟨hS643,f634,f635,f636,f637,f638,f639,f640,f641⟩
  simp only [t9,a0c]
  simp only [f634,qd,B0,reduceIte,a9]
  refine jj 2 (fun fr' h'=>Sep h' lo ([Blk1 b1 [.int .i64 f0.Truth.Epoch,.int .i64 f0.Truth.Leader,d9,e8,f4] 28]++([Blk1 b9 [.int .i64 0,.int .i64 0,
    .nil,.nil,.nil] 28]++([Blk1 b127 [.int .i64 zg.View.Epoch,.int .i64 zg.View.Leader,v115,v119,v123,
    .int .i64 zg.Told] 68]++(i4++(c108++(i5++(c116++(c120++(c124++(S0))))))))))∧fr' 239 = .bool (((decide (d8.Kind=5))&&((v137&&(decide
    (zg.View.Epoch=f0.Truth.Epoch)))&&(decide (d8.To≠d8.K))))&&v164)∧fr' 2 = .ptr b1 0∧fr' 3 = .ref [.int .i64 d8.Kind,.int .i64 d8.K,.int .i64 d8.To,
    .int .i64 d8.N] 0∧fr' 4 = .ptr b9 0∧fr' 7 = .ptr b127 0∧fr' 8 = .bool v137∧fr' 9 = .bool ((v137&&(decide (zg.View.Epoch=f0.Truth.Epoch)))&&(decide
    (d8.To≠d8.K)))∧fr' 10 = .bool v164) (fun Q644 hN645=>?_) ?_
  ·simp only [t8,a0d]
   simp only [qf (g:=237),B0,reduceIte,a9]
   refine zj (t:=((decide (d8.Kind=5))&&((v137&&(decide (zg.View.Epoch=f0.Truth.Epoch)))&&(decide (d8.To≠d8.K))))) (fun hg646=>?_)
     (fun hg646=>?_)
   ·simp only [hg646,qf (g:=237),zl,f641,qd,qx,qb,zo,qa,qo,B0,reduceIte,a9]
    exact hN645 _ _ ⟨(t7 (t7 (t7 (t7 (t7 (t7 (t7 (t7 (t7 hS643))))))))),by rw [yk hg646]; simp only [B0,reduceIte,a9],f635,
      f636,f637,f638,f639,f640,f641⟩
   ·simp only [hg646,qf (g:=237),jh,qx,qb,zn,qa,qo,B0,reduceIte,a9]
    exact hN645 _ _ ⟨(t7 (t7 (t7 (t7 (t7 (t7 (t7 (t7 (t7 hS643))))))))),by rw [yj hg646]; simp only [B0,reduceIte,a9],f635,
      f636,f637,f638,f639,f640,f641⟩
  rintro fr647 h656 ⟨hS657,f648,f649,f650,f651,f652,f653,f654,f655⟩
  simp only [t9,a0c]
  simp only [f648,qd,qa,qmx,qy,B0,reduceIte,a9]
  refine qu (t:=(((decide (d8.Kind=5))&&((v137&&(decide (zg.View.Epoch=f0.Truth.Epoch)))&&(decide (d8.To≠d8.K))))&&v164)) (fun hc658=>?_)
    (fun hc658=>?_)
  ·rw [iteT hc658] at hF376
   simp only [qok,qe,qc,f649,qn,B0,reduceIte,a9]
   refine qg (v := .agg [.int .i64 f0.Truth.Epoch,.int .i64 f0.Truth.Leader,d9,e8,f4]) ((zr (a0r _ _ _ hS657)).trans rfl) ?_
   simp only [f650,qq,qb,s5,s9,t5,qr,qn,B0,reduceIte,a9]
   refine qg (v := .int .i64 d8.K) rfl ?_
   simp only [f650,qq,qb,s5,s9,t5,qr,qn,B0,reduceIte,a9]
   refine qg (v := .int .i64 d8.To) rfl ?_
   obtain ⟨c659,hv660,hS661⟩:=a1x (c:=c108) (os:=c116++(c120++(c124))) hv111 rfl hx104 z7 (Node.RI (x:=zg) hv117 hv121 hv125) (a1p (c1:=c116)
     (c2:=c120) (c3:=c124) (a0j (t7 (t7 (t7 hS657)))))
   have hv662:=a1s hv660
   obtain ⟨v663,hx664,hF665⟩:=qi hF376
   simp only [zi,B0,reduceIte,a9]
   refine wc rfl (ue hW k f0 d9 i4 i8 e8 c659 hv662 f4 i5 l5 d8.K d8.To false v663 hx664 (a03 (a0l (a03 hS661)))) ?_
   rintro _ h674 ⟨v666,c667,c670,c672,rfl,hv668,hv671,hv673,hS675⟩
   simp only [f651,zp,B0,reduceIte,a9]
   refine zm (us:=[.int .i64 v663.Truth.Epoch,.int .i64 v663.Truth.Leader,v666,e8,f4]) rfl (cs':=[.int .i64 v663.Truth.Epoch,.int .i64 v663.Truth.Leader,
     v666,e8,f4]) (a0i hS675) hW rfl (qj rfl (qj rfl (qj (a0g hv668) (qj (a10 hv671) (qj (a0g hv673) zq))))) (nle rfl) rfl
     (fun h676 hS677=>?_)
   simp only [qd,qa,qw,B0,reduceIte,a9]
   have he:=qh hF665
   subst he
   refine jv (ql (j6 (bb:=b9) (oo:=0) (v := .agg [.int .i64 v663.Truth.Epoch,.int .i64 v663.Truth.Leader,v666,e8,
     f4]) (f651) ((zr (a0r _ _ _ hS677)).trans rfl)) (ql (k8 (v := .bool true) (rfl)) zh)) ?_
   exact ⟨v666,c667,c670,f4,c672,by first | trivial | rfl,hv668,hv671,hv673,(a0k (a0k (a0k (a0s (a0e (a0s (a0e (a0s (hS677)))))))))⟩
  rw [iteF hc658] at hF376
  simp only [qmg,qe,js,f650,z9,qk,s5,s9,t5,qr,zu,B0,reduceIte,a9]
  refine qt (v := .int .i64 d8.Kind) rfl ?_
  simp only [yg,qk,k7,zv,B0,reduceIte,a9]
  refine wu 2 (fun fr' h'=>Sep h' lo ([Blk1 b1 [.int .i64 f0.Truth.Epoch,.int .i64 f0.Truth.Leader,d9,e8,f4] 28]++([Blk1 b9 [.int .i64 0,.int .i64 0,
    .nil,.nil,.nil] 28]++([Blk1 b127 [.int .i64 zg.View.Epoch,.int .i64 zg.View.Leader,v115,v119,v123,
    .int .i64 zg.Told] 68]++(i4++(c108++(i5++(c116++(c120++(c124++(S0))))))))))∧fr' 252 = .bool ((decide (d8.Kind=6))&&((v137&&(decide
    (zg.View.Epoch=f0.Truth.Epoch)))&&(decide (d8.To≠d8.K))))∧fr' 2 = .ptr b1 0∧fr' 3 = .ref [.int .i64 d8.Kind,.int .i64 d8.K,.int .i64 d8.To,
    .int .i64 d8.N] 0∧fr' 4 = .ptr b9 0∧fr' 7 = .ptr b127 0∧fr' 8 = .bool v137∧fr' 10 = .bool v164) rfl (fun Q678 hN679=>?_) ?_
  ·simp only [t8,a0d]
   simp only [qp (g:=250),B0,reduceIte,a9]
   refine jq (t:=(decide (d8.Kind=6))) (fun hg680=>?_) (fun hg680=>?_)
   ·simp only [hg680,qp (g:=250),zk,f654,zv,qk,jf,zo,zc,qo,B0,reduceIte,a9]
    exact hN679 _ _ ⟨(t7 (t7 (t7 (t7 (t7 (t7 (t7 (t7 (t7 hS657))))))))),by rw [yk hg680]; simp only [B0,reduceIte,a9],f649,
      f650,f651,f652,f653,f655⟩
   ·simp only [hg680,qp (g:=250),ku,jf,qk,zn,zc,qo,B0,reduceIte,a9]
    exact hN679 _ _ ⟨(t7 (t7 (t7 (t7 (t7 (t7 (t7 (t7 (t7 hS657))))))))),by rw [yj hg680]; simp only [B0,reduceIte,a9],f649,
      f650,f651,f652,f653,f655⟩
  rintro fr681 h689 ⟨hS690,f682,f683,f684,f685,f686,f687,f688⟩
  simp only [t9,a0c]
  simp only [f682,zv,qk,B0,reduceIte,a9]
  refine wu 3 (fun fr' h'=>Sep h' lo ([Blk1 b1 [.int .i64 f0.Truth.Epoch,.int .i64 f0.Truth.Leader,d9,e8,f4] 28]++([Blk1 b9 [.int .i64 0,.int .i64 0,
    .nil,.nil,.nil] 28]++([Blk1 b127 [.int .i64 zg.View.Epoch,.int .i64 zg.View.Leader,v115,v119,v123,
    .int .i64 zg.Told] 68]++(i4++(c108++(i5++(c116++(c120++(c124++(S0))))))))))∧fr' 256 = .bool (((decide (d8.Kind=6))&&((v137&&(decide
    (zg.View.Epoch=f0.Truth.Epoch)))&&(decide (d8.To≠d8.K))))&&(!v164))∧fr' 2 = .ptr b1 0∧fr' 3 = .ref [.int .i64 d8.Kind,.int .i64 d8.K,.int .i64 d8.To,
    .int .i64 d8.N] 0∧fr' 4 = .ptr b9 0∧fr' 7 = .ptr b127 0∧fr' 8 = .bool v137) rfl (fun Q691 hN692=>?_) ?_
  ·simp only [t8,a0d]
   simp only [qp (g:=253),B0,reduceIte,a9]
   refine jq (t:=((decide (d8.Kind=6))&&((v137&&(decide (zg.View.Epoch=f0.Truth.Epoch)))&&(decide (d8.To≠d8.K))))) (fun hg693=>?_)
     (fun hg693=>?_)
   ·simp only [hg693,qp (g:=253),zk,f688,zv,qk,qeu,kz,jf,zo,zc,qo,B0,reduceIte,a9]
    exact hN692 _ _ ⟨(t7 (t7 (t7 (t7 (t7 (t7 (t7 (t7 (t7 hS690))))))))),by rw [yk hg693]; simp only [B0,reduceIte,a9],f683,
      f684,f685,f686,f687⟩
   ·simp only [hg693,qp (g:=253),ku,jf,qk,zn,zc,qo,B0,reduceIte,a9]
    exact hN692 _ _ ⟨(t7 (t7 (t7 (t7 (t7 (t7 (t7 (t7 (t7 hS690))))))))),by rw [yj hg693]; simp only [B0,reduceIte,a9],f683,
      f684,f685,f686,f687⟩
  rintro fr694 h701 ⟨hS702,f695,f696,f697,f698,f699,f700⟩
  simp only [t9,a0c]
  simp only [f695,zv,qk,B0,reduceIte,a9]
  obtain ⟨v706,hx707,hF708⟩:=qi hF376
  refine wu 10 (fun fr' h'=>Sep h' lo ([Blk1 b1 [.int .i64 f0.Truth.Epoch,.int .i64 f0.Truth.Leader,d9,e8,f4] 28]++([Blk1 b9 [.int .i64 0,.int .i64 0,
    .nil,.nil,.nil] 28]++([Blk1 b127 [.int .i64 zg.View.Epoch,.int .i64 zg.View.Leader,v115,v119,v123,
    .int .i64 zg.Told] 68]++(i4++(c108++(i5++(c116++(c120++(c124 ++
    (S0))))))))))∧fr' 267 = .bool v706∧fr' 2 = .ptr b1 0∧fr' 3 = .ref [.int .i64 d8.Kind,.int .i64 d8.K,.int .i64 d8.To,
    .int .i64 d8.N] 0∧fr' 4 = .ptr b9 0∧fr' 7 = .ptr b127 0∧fr' 8 = .bool v137) rfl (fun Q703 hN704=>?_) ?_
  ·simp only [t8,a0d]
   simp only [qp (g:=257),B0,reduceIte,a9]
   refine jq (t:=(((decide (d8.Kind=6))&&((v137&&(decide (zg.View.Epoch=f0.Truth.Epoch)))&&(decide (d8.To≠d8.K))))&&(!v164))) (fun hg705=>?_)
     (fun hg705=>?_)
   ·rw [iteT hg705] at hx707
    simp only [hg705,qp (g:=257),zk,f699,z9,qk,s5,s9,t5,zd,zu,B0,reduceIte,a9]
    refine qt (v:=v123) ((jt (a0r _ _ _ (a0k hS702))).trans rfl) ?_
    simp only [hg705,qp (g:=257),zk,f697,z9,qk,s5,s9,t5,qr,zu,B0,reduceIte,a9]
    refine qt (v := .int .i64 d8.To) rfl ?_
    obtain ⟨x709,hx710,hF711⟩:=qi hx707
    simp only [hg705,qp (g:=257),zk,yv,B0,reduceIte,a9]
    obtain ⟨b712,hb713⟩:=a13 hv125 (ka hx710)
    refine qt (a2u hv125 hb713 hx710) ?_
    simp only [hg705,qp (g:=257),zk,zu,B0,reduceIte,a9]
    refine qt (v := .int .i64 x709) ((SlF.ld (o:=0) hv125 (t7 hS702) hb713 hx710 (fun _=>rfl) (nle rfl)).trans rfl) ?_
    simp only [hg705,qp (g:=257),zk,f699,z9,qk,s5,s9,t5,zd,zu,B0,reduceIte,a9]
    refine qt (v := .int .i64 zg.Told) ((jt (a0r _ _ _ (a0k hS702))).trans rfl) ?_
    simp only [hg705,qp (g:=257),zk,yg,qk,qfg,jf,zo,zc,qo,B0,reduceIte,a9]
    have e714:=qh hF711
    exact hN704 _ _ ⟨(t7 (t7 (t7 (t7 (t7 (t7 (t7 (t7 (t7 hS702))))))))),by rw [←e714]; simp only [B0,reduceIte,a9],f696,
      f697,f698,f699,f700⟩
   ·rw [iteF hg705] at hx707
    simp only [hg705,qp (g:=257),ku,jf,qk,zn,zc,qo,B0,reduceIte,a9]
    have e715:=qh hx707
    exact hN704 _ _ ⟨(t7 (t7 (t7 (t7 (t7 (t7 (t7 (t7 (t7 hS702))))))))),by rw [←e715]; simp only [B0,reduceIte,a9],f696,
      f697,f698,f699,f700⟩
  rintro fr716 h723 ⟨hS724,f717,f718,f719,f720,f721,f722⟩
  simp only [t9,a0c]
  simp only [f717,zv,qk,B0,reduceIte,a9]
  simp only [qp (g:=268),B0,reduceIte,a9]
  refine jq (t:=v706) (fun hg725=>?_) (fun hg725=>?_)
  ·rw [iteT hg725] at hF708
   simp only [hg725,qp (g:=268),zk,f721,qb0,qk,s5,s9,t5,zd,uw,B0,reduceIte,a9]
   refine qcy (Sep.ltk (a0k hS657)) ?_
   refine qt (v:=v123) ((jt (a0r _ _ _ (a0k hS724))).trans rfl) ?_
   simp only [hg725,qp (g:=268),zk,f719,qb0,qk,s5,s9,t5,qr,uw,qcs,B0,reduceIte,
     a9]
   refine qt (v := .int .i64 d8.To) rfl ?_
   obtain ⟨x726,hx727,hF728⟩:=qi hF708
   simp only [hg725,qp (g:=268),zk,qr1,B0,reduceIte,a9]
   obtain ⟨b729,hb730⟩:=a13 hv125 (ka hx727)
   refine qt (a2u hv125 hb730 hx727) ?_
   simp only [hg725,qp (g:=268),zk,uw,B0,reduceIte,a9]
   refine qcy (SlF.ltk hv125 hb730 (t7 hS657)) ?_
   refine qt (v := .int .i64 x726) ((SlF.ld (o:=0) hv125 (t7 hS724) hb730 hx727 (fun _=>rfl) (nle rfl)).trans rfl) ?_
   simp only [hg725,qp (g:=268),zk,f721,zu,B0,reduceIte,a9]
   refine qt (v := .agg [.int .i64 zg.View.Epoch,.int .i64 zg.View.Leader,v115,v119,v123,
     .int .i64 zg.Told]) ((zr (a0r _ _ _ (a0k hS724))).trans rfl) ?_
   obtain ⟨v731,hx732,hF733⟩:=qi hF728
   simp only [hg725,qp (g:=268),zk,uf,B0,reduceIte,a9]
   refine qoz rfl (ql (jo (ql qs (ql qs (ql (a06 hv117 (a0v hS724) rfl (fun _=>rfl) (fun _=>rfl)) (ql (a06 hv121
     (a0j hS724) rfl (fun _=>rfl) (fun _=>rfl)) (ql (a06 hv125 (t7 hS724) rfl (fun _=>rfl) (fun _=>rfl)) (ql qs zh))))))) zh)
     (qey (fun b hb=>decide_eq_true hb) zg v731 hx732) ?_
   simp only [hg725,qp (g:=268),zk,yg,qk,qfg,jf,zo,zv,zc,qha,qy,B0,reduceIte,a9]
   refine qu (t:=(decide (v731≤x726))) (fun hc734=>?_) (fun hc734=>?_)
   ·rw [iteT hc734] at hF733
    simp only [ql5,qe,qc,f718,qn,B0,reduceIte,a9]
    refine qg (v := .agg [.int .i64 f0.Truth.Epoch,.int .i64 f0.Truth.Leader,d9,e8,f4]) ((zr (a0r _ _ _ hS724)).trans rfl) ?_
    simp only [f719,qq,qb,s5,s9,t5,qr,qn,B0,reduceIte,a9]
    refine qg (v := .int .i64 d8.K) rfl ?_
    simp only [f719,qq,qb,s5,s9,t5,qr,qn,B0,reduceIte,a9]
    refine qg (v := .int .i64 d8.To) rfl ?_
    obtain ⟨c735,hv736,hS737⟩:=a1x (c:=c108) (os:=c116++(c120++(c124))) hv111 rfl hx104 z7 (Node.RI (x:=zg) hv117 hv121 hv125) (a1p (c1:=c116)
      (c2:=c120) (c3:=c124) (a0j (t7 (t7 (t7 hS724)))))
    have hv738:=a1s hv736
    obtain ⟨v739,hx740,hF741⟩:=qi hF733
    simp only [zi,B0,reduceIte,a9]
    refine wc rfl (ue hW k f0 d9 i4 i8 e8 c735 hv738 f4 i5 l5 d8.K d8.To true v739 hx740 (a03 (a0l (a03 hS737)))) ?_
    rintro _ h750 ⟨v742,c743,c746,c748,rfl,hv744,hv747,hv749,hS751⟩
    simp only [f720,zp,B0,reduceIte,a9]
    refine zm (us:=[.int .i64 v739.Truth.Epoch,.int .i64 v739.Truth.Leader,v742,e8,f4]) rfl (cs':=[.int .i64 v739.Truth.Epoch,
      .int .i64 v739.Truth.Leader,v742,e8,
      f4]) (a0i hS751) hW rfl (qj rfl (qj rfl (qj (a0g hv744) (qj (a10 hv747) (qj (a0g hv749) zq))))) (nle rfl) rfl (fun h752 hS753=>?_)
    simp only [qd,qa,qw,B0,reduceIte,a9]
    have he:=qh hF741
    subst he
    refine jv (ql (j6 (bb:=b9) (oo:=0) (v := .agg [.int .i64 v739.Truth.Epoch,.int .i64 v739.Truth.Leader,v742,e8,
      f4]) (f720) ((zr (a0r _ _ _ hS753)).trans rfl)) (ql (k8 (v := .bool true) (rfl)) zh)) ?_
    exact ⟨v742,c743,c746,f4,c748,by first | trivial | rfl,hv744,hv747,hv749,(a0k (a0k (a0k (a0s (a0e (a0s (a0e (a0s (hS753)))))))))⟩
   rw [iteF hc734] at hF733
   simp only [qg7,qe,qc,f719,qq,qb,s5,s9,t5,qr,qn,B0,reduceIte,a9]
   refine qg (v := .int .i64 d8.Kind) rfl ?_
   simp only [qv,qb,k7,qd,B0,reduceIte,a9]
   refine jj 2 (fun fr' h'=>Sep h' lo ([Blk1 b1 [.int .i64 f0.Truth.Epoch,.int .i64 f0.Truth.Leader,d9,e8,f4] 28]++([Blk1 b9 [.int .i64 0,.int .i64 0,
     .nil,.nil,.nil] 28]++(i4++(c108++(i5++(c116++(c120++(c124++(S0)))))))))∧fr' 291 = .bool ((decide
     (d8.Kind=7))&&v137)∧fr' 2 = .ptr b1 0∧fr' 3 = .ref [.int .i64 d8.Kind,.int .i64 d8.K,.int .i64 d8.To,
     .int .i64 d8.N] 0∧fr' 4 = .ptr b9 0) (fun Q754 hN755=>?_) ?_
   ·simp only [t8,a0d]
    simp only [qf (g:=289),B0,reduceIte,a9]
    refine zj (t:=(decide (d8.Kind=7))) (fun hg756=>?_) (fun hg756=>?_)
    ·simp only [hg756,qf (g:=289),zl,f722,qd,qx,qb,zo,qa,qo,B0,reduceIte,a9]
     exact hN755 _ _ ⟨(a0j (a0j (a0j (a0j (a0j (a0j (a0j (a0j (a0s (a0k hS724)))))))))),by rw [yk hg756]; simp only [B0,reduceIte,
       a9],f718,f719,f720⟩
    ·simp only [hg756,qf (g:=289),jh,qx,qb,zn,qa,qo,B0,reduceIte,a9]
     exact hN755 _ _ ⟨(a0j (a0j (a0j (a0j (a0j (a0j (a0j (a0j (a0s (a0k hS724)))))))))),by rw [yj hg756]; simp only [B0,reduceIte,
       a9],f718,f719,f720⟩
   rintro fr757 h762 ⟨hS763,f758,f759,f760,f761⟩
   simp only [t9,a0c]
   simp only [f758,qd,qa,qhi,qy,B0,reduceIte,a9]
   refine qu (t:=((decide (d8.Kind=7))&&v137)) (fun hc764=>?_) (fun hc764=>?_)
   ·rw [iteT hc764] at hF733
    simp only [qg4,qe,qc,f759,qn,B0,reduceIte,a9]
    refine qg (v := .agg [.int .i64 f0.Truth.Epoch,.int .i64 f0.Truth.Leader,d9,e8,f4]) ((zr (a0r _ _ _ hS763)).trans rfl) ?_
    simp only [f760,qq,qb,s5,s9,t5,qr,qn,B0,reduceIte,a9]
    refine qg (v := .int .i64 d8.K) rfl ?_
    obtain ⟨c765,hv766,hS767⟩:=a1x (c:=c108) (os:=c116++(c120++(c124))) hv111 rfl hx104 z7 (Node.RI (x:=zg) hv117 hv121 hv125) (a1p (c1:=c116)
      (c2:=c120) (c3:=c124) (a0v (a0j (a0j (a0j hS763)))))
    have hv768:=a1s hv766
    obtain ⟨v769,hx770,hF771⟩:=qi hF733
    simp only [zi,B0,reduceIte,a9]
    refine wc rfl (qal hW f0 d9 i4 i8 e8 c765 hv768 f4 i5 l5 d8.K v769 hx770 (a0i (a0l (a0i hS767)))) ?_
    rintro _ h780 ⟨c772,c774,v776,c777,rfl,hv773,hv775,hv778,hS781⟩
    simp only [qb7,qb,qcb,qb1,f761,zp,B0,reduceIte,a9]
    refine zm (us:=[.int .i64 v769.1.Truth.Epoch,.int .i64 v769.1.Truth.Leader,d9,e8,v776]) rfl (cs':=[.int .i64 v769.1.Truth.Epoch,
      .int .i64 v769.1.Truth.Leader,d9,e8,
      v776]) (a0i hS781) hW rfl (qj rfl (qj rfl (qj (a0g hv773) (qj (a10 hv775) (qj (a0g hv778) zq))))) (nle rfl) rfl (fun h782 hS783=>?_)
    simp only [qd,qa,qw,B0,reduceIte,a9]
    have he:=qh hF771
    subst he
    refine jv (ql (j6 (bb:=b9) (oo:=0) (v := .agg [.int .i64 v769.1.Truth.Epoch,.int .i64 v769.1.Truth.Leader,d9,e8,
      v776]) (f761) ((zr (a0r _ _ _ hS783)).trans rfl)) (ql (k8 (v := .bool v769.2) (rfl)) zh)) ?_
    exact ⟨d9,c772,c774,v776,c777,by first | trivial | rfl,hv773,hv775,hv778,(a0k (a0k (a0k (a0s (a0e (a0s (hS783)))))))⟩
   rw [iteF hc764] at hF733
   simp only [qe,qc,f759,qn,B0,reduceIte,a9]
   refine qg (v := .agg [.int .i64 f0.Truth.Epoch,.int .i64 f0.Truth.Leader,d9,e8,f4]) ((zr (a0r _ _ _ hS763)).trans rfl) ?_
   simp only [f761,zp,B0,reduceIte,a9]
   refine zm (us:=[.int .i64 f0.Truth.Epoch,.int .i64 f0.Truth.Leader,d9,e8,f4]) rfl (cs':=[.int .i64 f0.Truth.Epoch,.int .i64 f0.Truth.Leader,
     d9,e8,f4]) (a0l hS763) hW rfl (qj rfl (qj rfl (qj (a0g i8) (qj (a4h hv111) (qj (a0g l5) zq))))) (nle rfl) rfl
     (fun h784 hS785=>?_)
   simp only [qd,qa,qw,B0,reduceIte,a9]
   obtain ⟨c786,hv787,hS788⟩:=a1x (c:=c108) (os:=c116++(c120++(c124))) hv111 rfl hx104 z7 (Node.RI (x:=zg) hv117 hv121 hv125) (a1p (c1:=c116)
     (c2:=c120) (c3:=c124) (a0v (a0j (a0j (a0j hS785)))))
   have hv789:=a1s hv787
   have he:=qh hF733
   subst he
   refine jv (ql (j6 (bb:=b9) (oo:=0) (v := .agg [.int .i64 f0.Truth.Epoch,.int .i64 f0.Truth.Leader,d9,e8,
     f4]) (f761) ((zr (a0r _ _ _ (a0l hS788))).trans rfl)) (ql (k8 (v := .bool false) (rfl)) zh)) ?_
   exact ⟨d9,i4,c786,f4,i5,by first | trivial | rfl,i8,hv789,l5,(a0k (a0l (a0k (a0s (a0l (a0s (a0l hS788)))))))⟩
  rw [iteF hg725] at hF708
  simp only [hg725,qp (g:=268),ku,jf,qk,zn,zv,zc,qha,qy,qcl,qg7,qe,qc,f719,qq,
    qb,s5,s9,t5,qr,qn,B0,reduceIte,a9]
  refine qg (v := .int .i64 d8.Kind) rfl ?_
  simp only [qv,qb,k7,qd,B0,reduceIte,a9]
  refine jj 2 (fun fr' h'=>Sep h' lo ([Blk1 b1 [.int .i64 f0.Truth.Epoch,.int .i64 f0.Truth.Leader,d9,e8,f4] 28]++([Blk1 b9 [.int .i64 0,.int .i64 0,
    .nil,.nil,.nil] 28]++(i4++(c108++(i5++(c116++(c120++(c124++(S0)))))))))∧fr' 291 = .bool ((decide
    (d8.Kind=7))&&v137)∧fr' 2 = .ptr b1 0∧fr' 3 = .ref [.int .i64 d8.Kind,.int .i64 d8.K,.int .i64 d8.To,
    .int .i64 d8.N] 0∧fr' 4 = .ptr b9 0) (fun Q790 hN791=>?_) ?_
  ·simp only [t8,a0d]
   simp only [qf (g:=289),B0,reduceIte,a9]
   refine zj (t:=(decide (d8.Kind=7))) (fun hg792=>?_) (fun hg792=>?_)
   ·simp only [hg792,qf (g:=289),zl,f722,qd,qx,qb,zo,qa,qo,B0,reduceIte,a9]
    exact hN791 _ _ ⟨(a0j (a0j (a0j (a0j (a0j (a0j (a0j (a0j (a0s (a0k hS724)))))))))),by rw [yk hg792]; simp only [B0,reduceIte,
      a9],f718,f719,f720⟩
   ·simp only [hg792,qf (g:=289),jh,qx,qb,zn,qa,qo,B0,reduceIte,a9]
    exact hN791 _ _ ⟨(a0j (a0j (a0j (a0j (a0j (a0j (a0j (a0j (a0s (a0k hS724)))))))))),by rw [yj hg792]; simp only [B0,reduceIte,
      a9],f718,f719,f720⟩
  rintro fr793 h798 ⟨hS799,f794,f795,f796,f797⟩
  simp only [t9,a0c]
  simp only [f794,qd,qa,qhi,qy,B0,reduceIte,a9]
  refine qu (t:=((decide (d8.Kind=7))&&v137)) (fun hc800=>?_) (fun hc800=>?_)
  ·rw [iteT hc800] at hF708
   simp only [qg4,qe,qc,f795,qn,B0,reduceIte,a9]
   refine qg (v := .agg [.int .i64 f0.Truth.Epoch,.int .i64 f0.Truth.Leader,d9,e8,f4]) ((zr (a0r _ _ _ hS799)).trans rfl) ?_
   simp only [f796,qq,qb,s5,s9,t5,qr,qn,B0,reduceIte,a9]
   refine qg (v := .int .i64 d8.K) rfl ?_
   obtain ⟨c801,hv802,hS803⟩:=a1x (c:=c108) (os:=c116++(c120++(c124))) hv111 rfl hx104 z7 (Node.RI (x:=zg) hv117 hv121 hv125) (a1p (c1:=c116)
     (c2:=c120) (c3:=c124) (a0v (a0j (a0j (a0j hS799)))))
   have hv804:=a1s hv802
   obtain ⟨v805,hx806,hF807⟩:=qi hF708
   simp only [zi,B0,reduceIte,a9]
   refine wc rfl (qal hW f0 d9 i4 i8 e8 c801 hv804 f4 i5 l5 d8.K v805 hx806 (a0i (a0l (a0i hS803)))) ?_
   rintro _ h816 ⟨c808,c810,v812,c813,rfl,hv809,hv811,hv814,hS817⟩
   simp only [qb7,qb,qcb,qb1,f797,zp,B0,reduceIte,a9]
   refine zm (us:=[.int .i64 v805.1.Truth.Epoch,.int .i64 v805.1.Truth.Leader,d9,e8,v812]) rfl (cs':=[.int .i64 v805.1.Truth.Epoch,
     .int .i64 v805.1.Truth.Leader,d9,e8,
     v812]) (a0i hS817) hW rfl (qj rfl (qj rfl (qj (a0g hv809) (qj (a10 hv811) (qj (a0g hv814) zq))))) (nle rfl) rfl (fun h818 hS819=>?_)
   simp only [qd,qa,qw,B0,reduceIte,a9]
   have he:=qh hF807
   subst he
   refine jv (ql (j6 (bb:=b9) (oo:=0) (v := .agg [.int .i64 v805.1.Truth.Epoch,.int .i64 v805.1.Truth.Leader,d9,e8,
     v812]) (f797) ((zr (a0r _ _ _ hS819)).trans rfl)) (ql (k8 (v := .bool v805.2) (rfl)) zh)) ?_
   exact ⟨d9,c808,c810,v812,c813,by first | trivial | rfl,hv809,hv811,hv814,(a0k (a0k (a0k (a0s (a0e (a0s (hS819)))))))⟩
  rw [iteF hc800] at hF708
  simp only [qe,qc,f795,qn,B0,reduceIte,a9]
  refine qg (v := .agg [.int .i64 f0.Truth.Epoch,.int .i64 f0.Truth.Leader,d9,e8,f4]) ((zr (a0r _ _ _ hS799)).trans rfl) ?_
  simp only [f797,zp,B0,reduceIte,a9]
  refine zm (us:=[.int .i64 f0.Truth.Epoch,.int .i64 f0.Truth.Leader,d9,e8,f4]) rfl (cs':=[.int .i64 f0.Truth.Epoch,.int .i64 f0.Truth.Leader,
    d9,e8,f4]) (a0l hS799) hW rfl (qj rfl (qj rfl (qj (a0g i8) (qj (a4h hv111) (qj (a0g l5) zq))))) (nle rfl) rfl
    (fun h820 hS821=>?_)
  simp only [qd,qa,qw,B0,reduceIte,a9]
  obtain ⟨c822,hv823,hS824⟩:=a1x (c:=c108) (os:=c116++(c120++(c124))) hv111 rfl hx104 z7 (Node.RI (x:=zg) hv117 hv121 hv125) (a1p (c1:=c116)
    (c2:=c120) (c3:=c124) (a0v (a0j (a0j (a0j hS821)))))
  have hv825:=a1s hv823
  have he:=qh hF708
  subst he
  refine jv (ql (j6 (bb:=b9) (oo:=0) (v := .agg [.int .i64 f0.Truth.Epoch,.int .i64 f0.Truth.Leader,d9,e8,
    f4]) (f797) ((zr (a0r _ _ _ (a0l hS824))).trans rfl)) (ql (k8 (v := .bool false) (rfl)) zh)) ?_
  exact ⟨d9,i4,c822,f4,i5,by first | trivial | rfl,i8,hv825,l5,(a0k (a0l (a0k (a0s (a0l (a0s (a0l hS824)))))))⟩
 rw [iteF hg363] at hF219
 simp only [hg363,qp (g:=197),ku,jf,qk,zn,zv,qp (g:=203),qp (g:=217),zc,qme,qy,
   qcl,qmf,qe,qc,f355,qq,qb,s5,s9,t5,qr,qn,B0,reduceIte,a9]
 refine qg (v := .int .i64 d8.Kind) rfl ?_
 simp only [qv,qb,k7,qd,B0,reduceIte,a9]
 refine jj 2 (fun fr' h'=>Sep h' lo ([Blk1 b1 [.int .i64 f0.Truth.Epoch,.int .i64 f0.Truth.Leader,d9,e8,f4] 28]++([Blk1 b9 [.int .i64 0,.int .i64 0,.nil,
   .nil,.nil] 28]++([Blk1 b127 [.int .i64 zg.View.Epoch,.int .i64 zg.View.Leader,v115,v119,v123,
   .int .i64 zg.Told] 68]++(i4++(c108++(i5++(c116++(c120++(c124++(S0))))))))))∧fr' 236 = .bool ((decide (d8.Kind=5))&&((v137&&(decide
   (zg.View.Epoch=f0.Truth.Epoch)))&&(decide (d8.To≠d8.K))))∧fr' 2 = .ptr b1 0∧fr' 3 = .ref [.int .i64 d8.Kind,.int .i64 d8.K,.int .i64 d8.To,
   .int .i64 d8.N] 0∧fr' 4 = .ptr b9 0∧fr' 7 = .ptr b127 0∧fr' 8 = .bool v137∧fr' 9 = .bool ((v137&&(decide (zg.View.Epoch=f0.Truth.Epoch)))&&(decide
   (d8.To≠d8.K)))∧fr' 10 = .bool v164) (fun Q826 hN827=>?_) ?_
 ·simp only [t8,a0d]
  simp only [qf (g:=234),B0,reduceIte,a9]
  refine zj (t:=(decide (d8.Kind=5))) (fun hg828=>?_) (fun hg828=>?_)
  ·simp only [hg828,qf (g:=234),zl,f359,qd,qx,qb,zo,qa,qo,B0,reduceIte,a9]
   exact hN827 _ _ ⟨(t7 (t7 (t7 (t7 (t7 (t7 (t7 (t7 (t7 hS362))))))))),by rw [yk hg828]; simp only [B0,reduceIte,a9],f354,
     f355,f356,f357,f358,f359,f360⟩
  ·simp only [hg828,qf (g:=234),jh,qx,qb,zn,qa,qo,B0,reduceIte,a9]
   exact hN827 _ _ ⟨(t7 (t7 (t7 (t7 (t7 (t7 (t7 (t7 (t7 hS362))))))))),by rw [yj hg828]; simp only [B0,reduceIte,a9],f354,
     f355,f356,f357,f358,f359,f360⟩
 rintro fr829 h838 ⟨hS839,f830,f831,f832,f833,f834,f835,f836,f837⟩
 simp only [t9,a0c]
 simp only [f830,qd,B0,reduceIte,a9]
 refine jj 2 (fun fr' h'=>Sep h' lo ([Blk1 b1 [.int .i64 f0.Truth.Epoch,.int .i64 f0.Truth.Leader,d9,e8,f4] 28]++([Blk1 b9 [.int .i64 0,.int .i64 0,.nil,
   .nil,.nil] 28]++([Blk1 b127 [.int .i64 zg.View.Epoch,.int .i64 zg.View.Leader,v115,v119,v123,
   .int .i64 zg.Told] 68]++(i4++(c108++(i5++(c116++(c120++(c124++(S0))))))))))∧fr' 239 = .bool (((decide (d8.Kind=5))&&((v137&&(decide
   (zg.View.Epoch=f0.Truth.Epoch)))&&(decide (d8.To≠d8.K))))&&v164)∧fr' 2 = .ptr b1 0∧fr' 3 = .ref [.int .i64 d8.Kind,.int .i64 d8.K,.int .i64 d8.To,
   .int .i64 d8.N] 0∧fr' 4 = .ptr b9 0∧fr' 7 = .ptr b127 0∧fr' 8 = .bool v137∧fr' 9 = .bool ((v137&&(decide (zg.View.Epoch=f0.Truth.Epoch)))&&(decide
   (d8.To≠d8.K)))∧fr' 10 = .bool v164) (fun Q840 hN841=>?_) ?_
 ·simp only [t8,a0d]
  simp only [qf (g:=237),B0,reduceIte,a9]
  refine zj (t:=((decide (d8.Kind=5))&&((v137&&(decide (zg.View.Epoch=f0.Truth.Epoch)))&&(decide (d8.To≠d8.K))))) (fun hg842=>?_) (fun hg842=>?_)
  ·simp only [hg842,qf (g:=237),zl,f837,qd,qx,qb,zo,qa,qo,B0,reduceIte,a9]
   exact hN841 _ _ ⟨(t7 (t7 (t7 (t7 (t7 (t7 (t7 (t7 (t7 hS839))))))))),by rw [yk hg842]; simp only [B0,reduceIte,a9],f831,
     f832,f833,f834,f835,f836,f837⟩
  ·simp only [hg842,qf (g:=237),jh,qx,qb,zn,qa,qo,B0,reduceIte,a9]
   exact hN841 _ _ ⟨(t7 (t7 (t7 (t7 (t7 (t7 (t7 (t7 (t7 hS839))))))))),by rw [yj hg842]; simp only [B0,reduceIte,a9],f831,
     f832,f833,f834,f835,f836,f837⟩
 rintro fr843 h852 ⟨hS853,f844,f845,f846,f847,f848,f849,f850,f851⟩
 simp only [t9,a0c]
 simp only [f844,qd,qa,qmx,qy,B0,reduceIte,a9]
 refine qu (t:=(((decide (d8.Kind=5))&&((v137&&(decide (zg.View.Epoch=f0.Truth.Epoch)))&&(decide (d8.To≠d8.K))))&&v164)) (fun hc854=>?_)
   (fun hc854=>?_)
 ·rw [iteT hc854] at hF219
  simp only [qok,qe,qc,f845,qn,B0,reduceIte,a9]
  refine qg (v := .agg [.int .i64 f0.Truth.Epoch,.int .i64 f0.Truth.Leader,d9,e8,f4]) ((zr (a0r _ _ _ hS853)).trans rfl) ?_
  simp only [f846,qq,qb,s5,s9,t5,qr,qn,B0,reduceIte,a9]
  refine qg (v := .int .i64 d8.K) rfl ?_
  simp only [f846,qq,qb,s5,s9,t5,qr,qn,B0,reduceIte,a9]
  refine qg (v := .int .i64 d8.To) rfl ?_
  obtain ⟨c855,hv856,hS857⟩:=a1x (c:=c108) (os:=c116++(c120++(c124))) hv111 rfl hx104 z7 (Node.RI (x:=zg) hv117 hv121 hv125) (a1p (c1:=c116)
    (c2:=c120) (c3:=c124) (a0j (t7 (t7 (t7 hS853)))))
  have hv858:=a1s hv856
  obtain ⟨v859,hx860,hF861⟩:=qi hF219
  simp only [zi,B0,reduceIte,a9]
  refine wc rfl (ue hW k f0 d9 i4 i8 e8 c855 hv858 f4 i5 l5 d8.K d8.To false v859 hx860 (a03 (a0l (a03 hS857)))) ?_
  rintro _ h870 ⟨v862,c863,c866,c868,rfl,hv864,hv867,hv869,hS871⟩
  simp only [f847,zp,B0,reduceIte,a9]
  refine zm (us:=[.int .i64 v859.Truth.Epoch,.int .i64 v859.Truth.Leader,v862,e8,f4]) rfl (cs':=[.int .i64 v859.Truth.Epoch,.int .i64 v859.Truth.Leader,
    v862,e8,f4]) (a0i hS871) hW rfl (qj rfl (qj rfl (qj (a0g hv864) (qj (a10 hv867) (qj (a0g hv869) zq))))) (nle rfl) rfl
    (fun h872 hS873=>?_)
  simp only [qd,qa,qw,B0,reduceIte,a9]
  have he:=qh hF861
  subst he
  refine jv (ql (j6 (bb:=b9) (oo:=0) (v := .agg [.int .i64 v859.Truth.Epoch,.int .i64 v859.Truth.Leader,v862,e8,
    f4]) (f847) ((zr (a0r _ _ _ hS873)).trans rfl)) (ql (k8 (v := .bool true) (rfl)) zh)) ?_
  exact ⟨v862,c863,c866,f4,c868,by first | trivial | rfl,hv864,hv867,hv869,(a0k (a0k (a0k (a0s (a0e (a0s (a0e (a0s (hS873)))))))))⟩
 rw [iteF hc854] at hF219
 simp only [qmg,qe,js,f846,z9,qk,s5,s9,t5,qr,zu,B0,reduceIte,a9]
 refine qt (v := .int .i64 d8.Kind) rfl ?_
 simp only [yg,qk,k7,zv,B0,reduceIte,a9]
 refine wu 2 (fun fr' h'=>Sep h' lo ([Blk1 b1 [.int .i64 f0.Truth.Epoch,.int .i64 f0.Truth.Leader,d9,e8,f4] 28]++([Blk1 b9 [.int .i64 0,.int .i64 0,.nil,
   .nil,.nil] 28]++([Blk1 b127 [.int .i64 zg.View.Epoch,.int .i64 zg.View.Leader,v115,v119,v123,
   .int .i64 zg.Told] 68]++(i4++(c108++(i5++(c116++(c120++(c124++(S0))))))))))∧fr' 252 = .bool ((decide (d8.Kind=6))&&((v137&&(decide
   (zg.View.Epoch=f0.Truth.Epoch)))&&(decide (d8.To≠d8.K))))∧fr' 2 = .ptr b1 0∧fr' 3 = .ref [.int .i64 d8.Kind,.int .i64 d8.K,.int .i64 d8.To,
   .int .i64 d8.N] 0∧fr' 4 = .ptr b9 0∧fr' 7 = .ptr b127 0∧fr' 8 = .bool v137∧fr' 10 = .bool v164) rfl (fun Q874 hN875=>?_) ?_
 ·simp only [t8,a0d]
  simp only [qp (g:=250),B0,reduceIte,a9]
  refine jq (t:=(decide (d8.Kind=6))) (fun hg876=>?_) (fun hg876=>?_)
  ·simp only [hg876,qp (g:=250),zk,f850,zv,qk,jf,zo,zc,qo,B0,reduceIte,a9]
   exact hN875 _ _ ⟨(t7 (t7 (t7 (t7 (t7 (t7 (t7 (t7 (t7 hS853))))))))),by rw [yk hg876]; simp only [B0,reduceIte,a9],f845,
     f846,f847,f848,f849,f851⟩
  ·simp only [hg876,qp (g:=250),ku,jf,qk,zn,zc,qo,B0,reduceIte,a9]
   exact hN875 _ _ ⟨(t7 (t7 (t7 (t7 (t7 (t7 (t7 (t7 (t7 hS853))))))))),by rw [yj hg876]; simp only [B0,reduceIte,a9],f845,
     f846,f847,f848,f849,f851⟩
 rintro fr877 h885 ⟨hS886,f878,f879,f880,f881,f882,f883,f884⟩
 simp only [t9,a0c]
 simp only [f878,zv,qk,B0,reduceIte,a9]
 refine wu 3 (fun fr' h'=>Sep h' lo ([Blk1 b1 [.int .i64 f0.Truth.Epoch,.int .i64 f0.Truth.Leader,d9,e8,f4] 28]++([Blk1 b9 [.int .i64 0,.int .i64 0,.nil,
   .nil,.nil] 28]++([Blk1 b127 [.int .i64 zg.View.Epoch,.int .i64 zg.View.Leader,v115,v119,v123,
   .int .i64 zg.Told] 68]++(i4++(c108++(i5++(c116++(c120++(c124++(S0))))))))))∧fr' 256 = .bool (((decide (d8.Kind=6))&&((v137&&(decide
   (zg.View.Epoch=f0.Truth.Epoch)))&&(decide (d8.To≠d8.K))))&&(!v164))∧fr' 2 = .ptr b1 0∧fr' 3 = .ref [.int .i64 d8.Kind,.int .i64 d8.K,.int .i64 d8.To,
   .int .i64 d8.N] 0∧fr' 4 = .ptr b9 0∧fr' 7 = .ptr b127 0∧fr' 8 = .bool v137) rfl (fun Q887 hN888=>?_) ?_
 ·simp only [t8,a0d]
  simp only [qp (g:=253),B0,reduceIte,a9]
  refine jq (t:=((decide (d8.Kind=6))&&((v137&&(decide (zg.View.Epoch=f0.Truth.Epoch)))&&(decide (d8.To≠d8.K))))) (fun hg889=>?_)
    (fun hg889=>?_)
  ·simp only [hg889,qp (g:=253),zk,f884,zv,qk,qeu,kz,jf,zo,zc,qo,B0,reduceIte,a9]
   exact hN888 _ _ ⟨(t7 (t7 (t7 (t7 (t7 (t7 (t7 (t7 (t7 hS886))))))))),by rw [yk hg889]; simp only [B0,reduceIte,a9],f879,
     f880,f881,f882,f883⟩
  ·simp only [hg889,qp (g:=253),ku,jf,qk,zn,zc,qo,B0,reduceIte,a9]
   exact hN888 _ _ ⟨(t7 (t7 (t7 (t7 (t7 (t7 (t7 (t7 (t7 hS886))))))))),by rw [yj hg889]; simp only [B0,reduceIte,a9],f879,
     f880,f881,f882,f883⟩
 rintro fr890 h897 ⟨hS898,f891,f892,f893,f894,f895,f896⟩
 simp only [t9,a0c]
 simp only [f891,zv,qk,B0,reduceIte,a9]
 obtain ⟨v902,hx903,hF904⟩:=qi hF219
 refine wu 10 (fun fr' h'=>Sep h' lo ([Blk1 b1 [.int .i64 f0.Truth.Epoch,.int .i64 f0.Truth.Leader,d9,e8,f4] 28]++([Blk1 b9 [.int .i64 0,.int .i64 0,
   .nil,.nil,.nil] 28]++([Blk1 b127 [.int .i64 zg.View.Epoch,.int .i64 zg.View.Leader,v115,v119,v123,
   .int .i64 zg.Told] 68]++(i4++(c108++(i5++(c116++(c120++(c124 ++
   (S0))))))))))∧fr' 267 = .bool v902∧fr' 2 = .ptr b1 0∧fr' 3 = .ref [.int .i64 d8.Kind,.int .i64 d8.K,.int .i64 d8.To,
   .int .i64 d8.N] 0∧fr' 4 = .ptr b9 0∧fr' 7 = .ptr b127 0∧fr' 8 = .bool v137) rfl (fun Q899 hN900=>?_) ?_
 ·simp only [t8,a0d]
  simp only [qp (g:=257),B0,reduceIte,a9]
  refine jq (t:=(((decide (d8.Kind=6))&&((v137&&(decide (zg.View.Epoch=f0.Truth.Epoch)))&&(decide (d8.To≠d8.K))))&&(!v164))) (fun hg901=>?_)
    (fun hg901=>?_)
  ·rw [iteT hg901] at hx903
   simp only [hg901,qp (g:=257),zk,f895,z9,qk,s5,s9,t5,zd,zu,B0,reduceIte,a9]
   refine qt (v:=v123) ((jt (a0r _ _ _ (a0k hS898))).trans rfl) ?_
   simp only [hg901,qp (g:=257),zk,f893,z9,qk,s5,s9,t5,qr,zu,B0,reduceIte,a9]
   refine qt (v := .int .i64 d8.To) rfl ?_
   obtain ⟨x905,hx906,hF907⟩:=qi hx903
   simp only [hg901,qp (g:=257),zk,yv,B0,reduceIte,a9]
   obtain ⟨b908,hb909⟩:=a13 hv125 (ka hx906)
   refine qt (a2u hv125 hb909 hx906) ?_
   simp only [hg901,qp (g:=257),zk,zu,B0,reduceIte,a9]
   refine qt (v := .int .i64 x905) ((SlF.ld (o:=0) hv125 (t7 hS898) hb909 hx906 (fun _=>rfl) (nle rfl)).trans rfl) ?_
   simp only [hg901,qp (g:=257),zk,f895,z9,qk,s5,s9,t5,zd,zu,B0,reduceIte,a9]
   refine qt (v := .int .i64 zg.Told) ((jt (a0r _ _ _ (a0k hS898))).trans rfl) ?_
   simp only [hg901,qp (g:=257),zk,yg,qk,qfg,jf,zo,zc,qo,B0,reduceIte,a9]
   have e910:=qh hF907
   exact hN900 _ _ ⟨(t7 (t7 (t7 (t7 (t7 (t7 (t7 (t7 (t7 hS898))))))))),by rw [←e910]; simp only [B0,reduceIte,a9],f892,f893,
     f894,f895,f896⟩
  ·rw [iteF hg901] at hx903
   simp only [hg901,qp (g:=257),ku,jf,qk,zn,zc,qo,B0,reduceIte,a9]
   have e911:=qh hx903
   exact hN900 _ _ ⟨(t7 (t7 (t7 (t7 (t7 (t7 (t7 (t7 (t7 hS898))))))))),by rw [←e911]; simp only [B0,reduceIte,a9],f892,f893,
     f894,f895,f896⟩
 rintro fr912 h919 ⟨hS920,f913,f914,f915,f916,f917,f918⟩
 simp only [t9,a0c]
 simp only [f913,zv,qk,B0,reduceIte,a9]
 simp only [qp (g:=268),B0,reduceIte,a9]
 refine jq (t:=v902) (fun hg921=>?_) (fun hg921=>?_)
 ·rw [iteT hg921] at hF904
  simp only [hg921,qp (g:=268),zk,f917,qb0,qk,s5,s9,t5,zd,uw,B0,reduceIte,a9]
  refine qcy (Sep.ltk (a0k hS853)) ?_
  refine qt (v:=v123) ((jt (a0r _ _ _ (a0k hS920))).trans rfl) ?_
  simp only [hg921,qp (g:=268),zk,f915,qb0,qk,s5,s9,t5,qr,uw,qcs,B0,reduceIte,a9]
  refine qt (v := .int .i64 d8.To) rfl ?_
  obtain ⟨x922,hx923,hF924⟩:=qi hF904
  simp only [hg921,qp (g:=268),zk,qr1,B0,reduceIte,a9]
  obtain ⟨b925,hb926⟩:=a13 hv125 (ka hx923)
  refine qt (a2u hv125 hb926 hx923) ?_
  simp only [hg921,qp (g:=268),zk,uw,B0,reduceIte,a9]
  refine qcy (SlF.ltk hv125 hb926 (t7 hS853)) ?_
  refine qt (v := .int .i64 x922) ((SlF.ld (o:=0) hv125 (t7 hS920) hb926 hx923 (fun _=>rfl) (nle rfl)).trans rfl) ?_
  simp only [hg921,qp (g:=268),zk,f917,zu,B0,reduceIte,a9]
  refine qt (v := .agg [.int .i64 zg.View.Epoch,.int .i64 zg.View.Leader,v115,v119,v123,.int .i64 zg.Told]) ((zr (a0r _ _ _ (a0k hS920))).trans rfl) ?_
  obtain ⟨v927,hx928,hF929⟩:=qi hF924
  simp only [hg921,qp (g:=268),zk,uf,B0,reduceIte,a9]
  refine qoz rfl (ql (jo (ql qs (ql qs (ql (a06 hv117 (a0v hS920) rfl (fun _=>rfl) (fun _=>rfl)) (ql (a06 hv121
    (a0j hS920) rfl (fun _=>rfl) (fun _=>rfl)) (ql (a06 hv125 (t7 hS920) rfl (fun _=>rfl) (fun _=>rfl)) (ql qs zh))))))) zh)
    (qey (fun b hb=>decide_eq_true hb) zg v927 hx928) ?_
  simp only [hg921,qp (g:=268),zk,yg,qk,qfg,jf,zo,zv,zc,qha,qy,B0,reduceIte,a9]
  refine qu (t:=(decide (v927≤x922))) (fun hc930=>?_) (fun hc930=>?_)
  ·rw [iteT hc930] at hF929
   simp only [ql5,qe,qc,f914,qn,B0,reduceIte,a9]
   refine qg (v := .agg [.int .i64 f0.Truth.Epoch,.int .i64 f0.Truth.Leader,d9,e8,f4]) ((zr (a0r _ _ _ hS920)).trans rfl) ?_
   simp only [f915,qq,qb,s5,s9,t5,qr,qn,B0,reduceIte,a9]
   refine qg (v := .int .i64 d8.K) rfl ?_
   simp only [f915,qq,qb,s5,s9,t5,qr,qn,B0,reduceIte,a9]
   refine qg (v := .int .i64 d8.To) rfl ?_
   obtain ⟨c931,hv932,hS933⟩:=a1x (c:=c108) (os:=c116++(c120++(c124))) hv111 rfl hx104 z7 (Node.RI (x:=zg) hv117 hv121 hv125) (a1p (c1:=c116)
     (c2:=c120) (c3:=c124) (a0j (t7 (t7 (t7 hS920)))))
   have hv934:=a1s hv932
   obtain ⟨v935,hx936,hF937⟩:=qi hF929
   simp only [zi,B0,reduceIte,a9]
   refine wc rfl (ue hW k f0 d9 i4 i8 e8 c931 hv934 f4 i5 l5 d8.K d8.To true v935 hx936 (a03 (a0l (a03 hS933)))) ?_
   rintro _ h946 ⟨v938,c939,c942,c944,rfl,hv940,hv943,hv945,hS947⟩
   simp only [f916,zp,B0,reduceIte,a9]
   refine zm (us:=[.int .i64 v935.Truth.Epoch,.int .i64 v935.Truth.Leader,v938,e8,f4]) rfl (cs':=[.int .i64 v935.Truth.Epoch,.int .i64 v935.Truth.Leader,
     v938,e8,f4]) (a0i hS947) hW rfl (qj rfl (qj rfl (qj (a0g hv940) (qj (a10 hv943) (qj (a0g hv945) zq))))) (nle rfl) rfl
     (fun h948 hS949=>?_)
   simp only [qd,qa,qw,B0,reduceIte,a9]
   have he:=qh hF937
   subst he
   refine jv (ql (j6 (bb:=b9) (oo:=0) (v := .agg [.int .i64 v935.Truth.Epoch,.int .i64 v935.Truth.Leader,v938,e8,
     f4]) (f916) ((zr (a0r _ _ _ hS949)).trans rfl)) (ql (k8 (v := .bool true) (rfl)) zh)) ?_
   exact ⟨v938,c939,c942,f4,c944,by first | trivial | rfl,hv940,hv943,hv945,(a0k (a0k (a0k (a0s (a0e (a0s (a0e (a0s (hS949)))))))))⟩
  rw [iteF hc930] at hF929
  simp only [qg7,qe,qc,f915,qq,qb,s5,s9,t5,qr,qn,B0,reduceIte,a9]
  refine qg (v := .int .i64 d8.Kind) rfl ?_
  simp only [qv,qb,k7,qd,B0,reduceIte,a9]
  refine jj 2 (fun fr' h'=>Sep h' lo ([Blk1 b1 [.int .i64 f0.Truth.Epoch,.int .i64 f0.Truth.Leader,d9,e8,f4] 28]++([Blk1 b9 [.int .i64 0,.int .i64 0,
    .nil,.nil,.nil] 28]++(i4++(c108++(i5++(c116++(c120++(c124++(S0)))))))))∧fr' 291 = .bool ((decide
    (d8.Kind=7))&&v137)∧fr' 2 = .ptr b1 0∧fr' 3 = .ref [.int .i64 d8.Kind,.int .i64 d8.K,.int .i64 d8.To,
    .int .i64 d8.N] 0∧fr' 4 = .ptr b9 0) (fun Q950 hN951=>?_) ?_
  ·simp only [t8,a0d]
   simp only [qf (g:=289),B0,reduceIte,a9]
   refine zj (t:=(decide (d8.Kind=7))) (fun hg952=>?_) (fun hg952=>?_)
   ·simp only [hg952,qf (g:=289),zl,f918,qd,qx,qb,zo,qa,qo,B0,reduceIte,a9]
    exact hN951 _ _ ⟨(a0j (a0j (a0j (a0j (a0j (a0j (a0j (a0j (a0s (a0k hS920)))))))))),by rw [yk hg952]; simp only [B0,reduceIte,
      a9],f914,f915,f916⟩
   ·simp only [hg952,qf (g:=289),jh,qx,qb,zn,qa,qo,B0,reduceIte,a9]
    exact hN951 _ _ ⟨(a0j (a0j (a0j (a0j (a0j (a0j (a0j (a0j (a0s (a0k hS920)))))))))),by rw [yj hg952]; simp only [B0,reduceIte,
      a9],f914,f915,f916⟩
  rintro fr953 h958 ⟨hS959,f954,f955,f956,f957⟩
  simp only [t9,a0c]
  simp only [f954,qd,qa,qhi,qy,B0,reduceIte,a9]
  refine qu (t:=((decide (d8.Kind=7))&&v137)) (fun hc960=>?_) (fun hc960=>?_)
  ·rw [iteT hc960] at hF929
   simp only [qg4,qe,qc,f955,qn,B0,reduceIte,a9]
   refine qg (v := .agg [.int .i64 f0.Truth.Epoch,.int .i64 f0.Truth.Leader,d9,e8,f4]) ((zr (a0r _ _ _ hS959)).trans rfl) ?_
   simp only [f956,qq,qb,s5,s9,t5,qr,qn,B0,reduceIte,a9]
   refine qg (v := .int .i64 d8.K) rfl ?_
   obtain ⟨c961,hv962,hS963⟩:=a1x (c:=c108) (os:=c116++(c120++(c124))) hv111 rfl hx104 z7 (Node.RI (x:=zg) hv117 hv121 hv125) (a1p (c1:=c116)
     (c2:=c120) (c3:=c124) (a0v (a0j (a0j (a0j hS959)))))
   have hv964:=a1s hv962
   obtain ⟨v965,hx966,hF967⟩:=qi hF929
   simp only [zi,B0,reduceIte,a9]
   refine wc rfl (qal hW f0 d9 i4 i8 e8 c961 hv964 f4 i5 l5 d8.K v965 hx966 (a0i (a0l (a0i hS963)))) ?_
   rintro _ h976 ⟨c968,c970,v972,c973,rfl,hv969,hv971,hv974,hS977⟩
   simp only [qb7,qb,qcb,qb1,f957,zp,B0,reduceIte,a9]
   refine zm (us:=[.int .i64 v965.1.Truth.Epoch,.int .i64 v965.1.Truth.Leader,d9,e8,v972]) rfl (cs':=[.int .i64 v965.1.Truth.Epoch,
     .int .i64 v965.1.Truth.Leader,d9,e8,
     v972]) (a0i hS977) hW rfl (qj rfl (qj rfl (qj (a0g hv969) (qj (a10 hv971) (qj (a0g hv974) zq))))) (nle rfl) rfl (fun h978 hS979=>?_)
   simp only [qd,qa,qw,B0,reduceIte,a9]
   have he:=qh hF967
   subst he
   refine jv (ql (j6 (bb:=b9) (oo:=0) (v := .agg [.int .i64 v965.1.Truth.Epoch,.int .i64 v965.1.Truth.Leader,d9,e8,
     v972]) (f957) ((zr (a0r _ _ _ hS979)).trans rfl)) (ql (k8 (v := .bool v965.2) (rfl)) zh)) ?_
   exact ⟨d9,c968,c970,v972,c973,by first | trivial | rfl,hv969,hv971,hv974,(a0k (a0k (a0k (a0s (a0e (a0s (hS979)))))))⟩
  rw [iteF hc960] at hF929
  simp only [qe,qc,f955,qn,B0,reduceIte,a9]
  refine qg (v := .agg [.int .i64 f0.Truth.Epoch,.int .i64 f0.Truth.Leader,d9,e8,f4]) ((zr (a0r _ _ _ hS959)).trans rfl) ?_
  simp only [f957,zp,B0,reduceIte,a9]
  refine zm (us:=[.int .i64 f0.Truth.Epoch,.int .i64 f0.Truth.Leader,d9,e8,f4]) rfl (cs':=[.int .i64 f0.Truth.Epoch,.int .i64 f0.Truth.Leader,
    d9,e8,f4]) (a0l hS959) hW rfl (qj rfl (qj rfl (qj (a0g i8) (qj (a4h hv111) (qj (a0g l5) zq))))) (nle rfl) rfl
    (fun h980 hS981=>?_)
  simp only [qd,qa,qw,B0,reduceIte,a9]
  obtain ⟨c982,hv983,hS984⟩:=a1x (c:=c108) (os:=c116++(c120++(c124))) hv111 rfl hx104 z7 (Node.RI (x:=zg) hv117 hv121 hv125) (a1p (c1:=c116)
    (c2:=c120) (c3:=c124) (a0v (a0j (a0j (a0j hS981)))))
  have hv985:=a1s hv983
  have he:=qh hF929
  subst he
  refine jv (ql (j6 (bb:=b9) (oo:=0) (v := .agg [.int .i64 f0.Truth.Epoch,.int .i64 f0.Truth.Leader,d9,e8,
    f4]) (f957) ((zr (a0r _ _ _ (a0l hS984))).trans rfl)) (ql (k8 (v := .bool false) (rfl)) zh)) ?_
  exact ⟨d9,i4,c982,f4,i5,by first | trivial | rfl,i8,hv985,l5,(a0k (a0l (a0k (a0s (a0l (a0s (a0l hS984)))))))⟩
 rw [iteF hg921] at hF904
 simp only [hg921,qp (g:=268),ku,jf,qk,zn,zv,zc,qha,qy,qcl,qg7,qe,qc,f915,qq,
   qb,s5,s9,t5,qr,qn,B0,reduceIte,a9]
 refine qg (v := .int .i64 d8.Kind) rfl ?_
 simp only [qv,qb,k7,qd,B0,reduceIte,a9]
 refine jj 2 (fun fr' h'=>Sep h' lo ([Blk1 b1 [.int .i64 f0.Truth.Epoch,.int .i64 f0.Truth.Leader,d9,e8,f4] 28]++([Blk1 b9 [.int .i64 0,.int .i64 0,.nil,
   .nil,.nil] 28]++(i4++(c108++(i5++(c116++(c120++(c124++(S0)))))))))∧fr' 291 = .bool ((decide
   (d8.Kind=7))&&v137)∧fr' 2 = .ptr b1 0∧fr' 3 = .ref [.int .i64 d8.Kind,.int .i64 d8.K,.int .i64 d8.To,
   .int .i64 d8.N] 0∧fr' 4 = .ptr b9 0) (fun Q986 hN987=>?_) ?_
 ·simp only [t8,a0d]
  simp only [qf (g:=289),B0,reduceIte,a9]
  refine zj (t:=(decide (d8.Kind=7))) (fun hg988=>?_) (fun hg988=>?_)
  ·simp only [hg988,qf (g:=289),zl,f918,qd,qx,qb,zo,qa,qo,B0,reduceIte,a9]
   exact hN987 _ _ ⟨(a0j (a0j (a0j (a0j (a0j (a0j (a0j (a0j (a0s (a0k hS920)))))))))),by rw [yk hg988]; simp only [B0,reduceIte,
     a9],f914,f915,f916⟩
  ·simp only [hg988,qf (g:=289),jh,qx,qb,zn,qa,qo,B0,reduceIte,a9]
   exact hN987 _ _ ⟨(a0j (a0j (a0j (a0j (a0j (a0j (a0j (a0j (a0s (a0k hS920)))))))))),by rw [yj hg988]; simp only [B0,reduceIte,
     a9],f914,f915,f916⟩
 rintro fr989 h994 ⟨hS995,f990,f991,f992,f993⟩
 simp only [t9,a0c]
 simp only [f990,qd,qa,qhi,qy,B0,reduceIte,a9]
 refine qu (t:=((decide (d8.Kind=7))&&v137)) (fun hc996=>?_) (fun hc996=>?_)
 ·rw [iteT hc996] at hF904
  simp only [qg4,qe,qc,f991,qn,B0,reduceIte,a9]
  refine qg (v := .agg [.int .i64 f0.Truth.Epoch,.int .i64 f0.Truth.Leader,d9,e8,f4]) ((zr (a0r _ _ _ hS995)).trans rfl) ?_
  simp only [f992,qq,qb,s5,s9,t5,qr,qn,B0,reduceIte,a9]
  refine qg (v := .int .i64 d8.K) rfl ?_
  obtain ⟨c997,hv998,hS999⟩:=a1x (c:=c108) (os:=c116++(c120++(c124))) hv111 rfl hx104 z7 (Node.RI (x:=zg) hv117 hv121 hv125) (a1p (c1:=c116)
    (c2:=c120) (c3:=c124) (a0v (a0j (a0j (a0j hS995)))))
  have hv1000:=a1s hv998
  obtain ⟨v1001,hx1002,hF1003⟩:=qi hF904
  simp only [zi,B0,reduceIte,a9]
  refine wc rfl (qal hW f0 d9 i4 i8 e8 c997 hv1000 f4 i5 l5 d8.K v1001 hx1002 (a0i (a0l (a0i hS999)))) ?_
  rintro _ h1012 ⟨c1004,c1006,v1008,c1009,rfl,hv1005,hv1007,hv1010,hS1013⟩
  simp only [qb7,qb,qcb,qb1,f993,zp,B0,reduceIte,a9]
  refine zm (us:=[.int .i64 v1001.1.Truth.Epoch,.int .i64 v1001.1.Truth.Leader,d9,e8,v1008]) rfl (cs':=[.int .i64 v1001.1.Truth.Epoch,
    .int .i64 v1001.1.Truth.Leader,d9,e8,
    v1008]) (a0i hS1013) hW rfl (qj rfl (qj rfl (qj (a0g hv1005) (qj (a10 hv1007) (qj (a0g hv1010) zq))))) (nle rfl) rfl
    (fun h1014 hS1015=>?_)
  simp only [qd,qa,qw,B0,reduceIte,a9]
  have he:=qh hF1003
  subst he
  refine jv (ql (j6 (bb:=b9) (oo:=0) (v := .agg [.int .i64 v1001.1.Truth.Epoch,.int .i64 v1001.1.Truth.Leader,d9,e8,
    v1008]) (f993) ((zr (a0r _ _ _ hS1015)).trans rfl)) (ql (k8 (v := .bool v1001.2) (rfl)) zh)) ?_
  exact ⟨d9,c1004,c1006,v1008,c1009,by first | trivial | rfl,hv1005,hv1007,hv1010,(a0k (a0k (a0k (a0s (a0e (a0s (hS1015)))))))⟩
 rw [iteF hc996] at hF904
 simp only [qe,qc,f991,qn,B0,reduceIte,a9]
 refine qg (v := .agg [.int .i64 f0.Truth.Epoch,.int .i64 f0.Truth.Leader,d9,e8,f4]) ((zr (a0r _ _ _ hS995)).trans rfl) ?_
 simp only [f993,zp,B0,reduceIte,a9]
 refine zm (us:=[.int .i64 f0.Truth.Epoch,.int .i64 f0.Truth.Leader,d9,e8,f4]) rfl (cs':=[.int .i64 f0.Truth.Epoch,.int .i64 f0.Truth.Leader,d9,
   e8,f4]) (a0l hS995) hW rfl (qj rfl (qj rfl (qj (a0g i8) (qj (a4h hv111) (qj (a0g l5) zq))))) (nle rfl) rfl
   (fun h1016 hS1017=>?_)
 simp only [qd,qa,qw,B0,reduceIte,a9]
 obtain ⟨c1018,hv1019,hS1020⟩:=a1x (c:=c108) (os:=c116++(c120++(c124))) hv111 rfl hx104 z7 (Node.RI (x:=zg) hv117 hv121 hv125) (a1p (c1:=c116)
   (c2:=c120) (c3:=c124) (a0v (a0j (a0j (a0j hS1017)))))
 have hv1021:=a1s hv1019
 have he:=qh hF904
 subst he
 refine jv (ql (j6 (bb:=b9) (oo:=0) (v := .agg [.int .i64 f0.Truth.Epoch,.int .i64 f0.Truth.Leader,d9,e8,
   f4]) (f993) ((zr (a0r _ _ _ (a0l hS1020))).trans rfl)) (ql (k8 (v := .bool false) (rfl)) zh)) ?_
 exact ⟨d9,i4,c1018,f4,i5,by first | trivial | rfl,i8,hv1021,l5,(a0k (a0l (a0k (a0s (a0l (a0s (a0l hS1020)))))))⟩
end Go.Proofs.Ytohofoampalhoaa.X
