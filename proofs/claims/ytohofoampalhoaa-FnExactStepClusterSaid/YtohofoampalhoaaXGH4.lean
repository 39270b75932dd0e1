/- The functions' code comes to what the plain functions say (4). -/
import Derived.Test.YtohofoampalhoaaXGH3
open Go.IntKind renaming wrap→l4
open List renaming drop_succ_cons→i0,drop_zero→i6,length→f0,set→a0u,take_succ_cons→f4,take_zero→i7
open Nat renaming add_zero→e8,reduceAdd→d8,reduceEqDiff→a9,zero_add→d9
open Go.Proofs.Ytohofoampalhoaa.X.Sep renaming bk→o9,dc→o8,m1→n7,m2→l9,m3→l6,m4→n9,m5→t9,m6→s9,m7→o7,m8→i5,ni3→a0q
open Go.Proofs.Ytohofoampalhoaa.X.SlF renaming ia→a16,isrow→a04,one→l7,snap→a0c
open Go.Proofs.Ytohofoampalhoaa.X.SlG renaming cls0→a0z,one→a3g,toN→a0s
open Go.Proofs.Ytohofoampalhoaa.X.SlN renaming one→a09
set_option linter.unusedVariables false
set_option linter.unusedSimpArgs false
set_option maxRecDepth 100000
namespace Go.Proofs.Ytohofoampalhoaa.X
open Go
theorem qm3 {W:Nat→Bool}{h:Heap}{lo:Nat→Prop}{S0:List Obj} (hW:∀ b,
  lo b→W b=true) (k:Nat) (v_0:Cluster) (pv0_2:XV) (pc0_2:List Obj) (ph0_2:SlF cI 1 3 pv0_2 v_0.Truth.InStep pc0_2) (pv0_3:XV) (pc0_3:List Obj)
  (ph0_3:SlN Node.R 6 68 pv0_3 v_0.Nodes pc0_3) (pv0_4:XV) (pc0_4:List Obj) (ph0_4:SlF qg 2 92 pv0_4 v_0.Acked pc0_4) (v_1:ClusterStep) (r:Cluster × Bool)
  (hF:qaj k v_0 v_1=some r) (hS:Sep h lo (pc0_2++(pc0_3++(pc0_4++(S0))))) : Ret E W 63 [.agg [.int .i64 v_0.Truth.Epoch,.int .i64 v_0.Truth.Leader,pv0_2,
  pv0_3,pv0_4],.agg [.int .i64 v_1.Kind,.int .i64 v_1.K,.int .i64 v_1.To,.int .i64 v_1.N]] h (fun v h'=>∃ rv0_2 rc0_2 rc0_3 rv0_4 rc0_4,
  v = .tup [.agg [.int .i64 r.1.Truth.Epoch,.int .i64 r.1.Truth.Leader,rv0_2,pv0_3,rv0_4],
  .bool r.2]∧SlF cI 1 3 rv0_2 r.1.Truth.InStep rc0_2∧SlN Node.R 6 68 pv0_3 r.1.Nodes rc0_3∧SlF qg 2 92 rv0_4 r.1.Acked rc0_4∧Sep h' lo (rc0_2++(rc0_3 ++
  (rc0_4++(S0))))):=by
 refine Ret.of (fn:=x63) rfl (Run.of ?_)
 unfold qaj at hF
 have zf0:zb [.agg [.int .i64 v_0.Truth.Epoch,.int .i64 v_0.Truth.Leader,pv0_2,pv0_3,pv0_4],.agg [.int .i64 v_1.Kind,.int .i64 v_1.K,.int .i64 v_1.To,
   .int .i64 v_1.N]] 0 = .agg [.int .i64 v_0.Truth.Epoch,.int .i64 v_0.Truth.Leader,pv0_2,pv0_3,pv0_4]:=rfl
 have zf1:zb [.agg [.int .i64 v_0.Truth.Epoch,.int .i64 v_0.Truth.Leader,pv0_2,pv0_3,pv0_4],.agg [.int .i64 v_1.Kind,.int .i64 v_1.K,.int .i64 v_1.To,
   .int .i64 v_1.N]] 1 = .agg [.int .i64 v_1.Kind,.int .i64 v_1.K,.int .i64 v_1.To,.int .i64 v_1.N]:=rfl
 generalize zb [.agg [.int .i64 v_0.Truth.Epoch,.int .i64 v_0.Truth.Leader,pv0_2,pv0_3,pv0_4],.agg [.int .i64 v_1.Kind,.int .i64 v_1.K,.int .i64 v_1.To,
   .int .i64 v_1.N]]=fr0 at zf0 zf1 ⊢
 simp only [x63,qc,qd,jp,zf0,B0,reduceIte,a9]
 refine je (cs:=[.int .i64 v_0.Truth.Epoch,.int .i64 v_0.Truth.Leader,pv0_2,pv0_3,
   pv0_4]) hS rfl rfl (qm rfl (qm rfl (qm (l7 ph0_2) (qm (a09 ph0_3) (qm (l7 ph0_4) zq))))) (fun b1 h2 hS3=>?_)
 simp only [jp,zf1,B0,reduceIte,a9]
 refine je (cs:=[.int .i64 v_1.Kind,.int .i64 v_1.K,.int .i64 v_1.To,.int .i64 v_1.N]) hS3 rfl rfl rfl (fun b5 h6 hS7=>?_)
 simp only [kd,B0,reduceIte,a9]
 refine jt hS7 (fun b9 h10 hS11=>?_)
 simp only [qf,qa,B0,reduceIte,a9]
 refine zx (n7 hS11) hW (by simp only [B0,reduceIte,a9]) (fun h13 hS14=>?_)
 simp only [zw,qvi,qc,qd,qt,qb,d8,d9,e8,zd,qn,B0,reduceIte,a9]
 refine qh (v:=pv0_3) ((jv (o9 _ _ _ (n7 hS14))).trans rfl) ?_
 simp only [zy,qb,SlN.len ph0_3,qf,qa,qu8,qc,qd,qt,d8,d9,e8,qs,qn,B0,reduceIte,
   a9]
 refine qh (v := .int .i64 v_1.K) rfl ?_
 simp only [qz,qb,kq,qf,B0,reduceIte,a9]
 refine ji 5 (fun fr' h'=>Sep h' lo ([Blk1 b1 [.int .i64 v_0.Truth.Epoch,.int .i64 v_0.Truth.Leader,pv0_2,pv0_3,pv0_4] 28]++([Blk1 b9 [.int .i64 0,.int .i64 0,.nil,
   .nil,.nil] 28]++(pc0_2++(pc0_3++(pc0_4++(S0))))))∧fr' 22 = .bool ((decide (v_1.K<0))||(decide
   ((f0 v_0.Nodes:Int)≤v_1.K)))∧fr' 2 = .ptr b1 0∧fr' 3 = .ref [.int .i64 v_1.Kind,.int .i64 v_1.K,.int .i64 v_1.To,
   .int .i64 v_1.N] 0∧fr' 4 = .ptr b9 0∧fr' 6 = .int .i64 (f0 v_0.Nodes:Int)) (fun Q15 hN16=>?_) ?_
 ·simp only [f4,i7]
  simp only [qe (g:=17),B0,reduceIte,a9]
  refine ze (t:=(decide (v_1.K<0))) (fun hg17=>?_) (fun hg17=>?_)
  ·simp only [hg17,qe (g:=17),jk,qw,qb,zo,qa,qp,B0,reduceIte,a9]
   exact hN16 _ _ ⟨(n9 (l6 (n9 (n9 (n9 hS14))))),by rw [orT hg17]; simp only [B0,reduceIte,a9],rfl,rfl,rfl,rfl⟩
  ·simp only [hg17,qe (g:=17),qv,qt,qb,d8,d9,e8,qs,qn,B0,reduceIte,a9]
   refine qh (v := .int .i64 v_1.K) rfl ?_
   simp only [hg17,qe (g:=17),qv,qf,qz,qb,qd9,qw,zn,qa,qp,B0,reduceIte,a9]
   exact hN16 _ _ ⟨(n9 (l6 (n9 (n9 (n9 hS14))))),by rw [orF hg17]; simp only [B0,reduceIte,a9],rfl,rfl,rfl,rfl⟩
 rintro fr18 h24 ⟨hS25,f19,f20,f21,f22,f23⟩
 simp only [i0,i6]
 simp only [f19,qf,B0,reduceIte,a9]
 refine ji 4 (fun fr' h'=>Sep h' lo ([Blk1 b1 [.int .i64 v_0.Truth.Epoch,.int .i64 v_0.Truth.Leader,pv0_2,pv0_3,pv0_4] 28]++([Blk1 b9 [.int .i64 0,.int .i64 0,.nil,
   .nil,.nil] 28]++(pc0_2++(pc0_3++(pc0_4++(S0))))))∧fr' 27 = .bool (((decide (v_1.K<0))||(decide ((f0 v_0.Nodes:Int)≤v_1.K)))||(decide
   (v_1.To<0)))∧fr' 2 = .ptr b1 0∧fr' 3 = .ref [.int .i64 v_1.Kind,.int .i64 v_1.K,.int .i64 v_1.To,
   .int .i64 v_1.N] 0∧fr' 4 = .ptr b9 0∧fr' 6 = .int .i64 (f0 v_0.Nodes:Int)) (fun Q26 hN27=>?_) ?_
 ·simp only [f4,i7]
  simp only [qe (g:=23),B0,reduceIte,a9]
  refine ze (t:=((decide (v_1.K<0))||(decide ((f0 v_0.Nodes:Int)≤v_1.K)))) (fun hg28=>?_) (fun hg28=>?_)
  ·simp only [hg28,qe (g:=23),jk,qw,qb,zo,qa,qp,B0,reduceIte,a9]
   exact hN27 _ _ ⟨(n9 (n9 (n9 (n9 (n9 hS25))))),by rw [orT hg28]; simp only [B0,reduceIte,a9],f20,f21,f22,f23⟩
  ·simp only [hg28,qe (g:=23),qv,f21,qt,qb,d8,d9,e8,qs,qn,B0,reduceIte,a9]
   refine qh (v := .int .i64 v_1.To) rfl ?_
   simp only [hg28,qe (g:=23),qv,qz,qb,kq,qw,zn,qa,qp,B0,reduceIte,a9]
   exact hN27 _ _ ⟨(n9 (n9 (n9 (n9 (n9 hS25))))),by rw [orF hg28]; simp only [B0,reduceIte,a9],f20,f21,f22,f23⟩
 rintro fr29 h35 ⟨hS36,f30,f31,f32,f33,f34⟩
 simp only [i0,i6]
 simp only [f30,qf,B0,reduceIte,a9]
 refine ji 5 (fun fr' h'=>Sep h' lo ([Blk1 b1 [.int .i64 v_0.Truth.Epoch,.int .i64 v_0.Truth.Leader,pv0_2,pv0_3,pv0_4] 28]++([Blk1 b9 [.int .i64 0,.int .i64 0,.nil,
   .nil,.nil] 28]++(pc0_2++(pc0_3++(pc0_4++(S0))))))∧fr' 33 = .bool ((((decide (v_1.K<0))||(decide ((f0 v_0.Nodes:Int)≤v_1.K)))||(decide
   (v_1.To<0)))||(decide ((f0 v_0.Nodes:Int)≤v_1.To)))∧fr' 2 = .ptr b1 0∧fr' 3 = .ref [.int .i64 v_1.Kind,.int .i64 v_1.K,.int .i64 v_1.To,
   .int .i64 v_1.N] 0∧fr' 4 = .ptr b9 0) (fun Q37 hN38=>?_) ?_
 ·simp only [f4,i7]
  simp only [qe (g:=28),B0,reduceIte,a9]
  refine ze (t:=(((decide (v_1.K<0))||(decide ((f0 v_0.Nodes:Int)≤v_1.K)))||(decide (v_1.To<0)))) (fun hg39=>?_) (fun hg39=>?_)
  ·simp only [hg39,qe (g:=28),jk,qw,qb,zo,qa,qp,B0,reduceIte,a9]
   exact hN38 _ _ ⟨(n9 (n9 (n9 (n9 (n9 hS36))))),by rw [orT hg39]; simp only [B0,reduceIte,a9],f31,f32,f33⟩
  ·simp only [hg39,qe (g:=28),qv,f32,qt,qb,d8,d9,e8,qs,qn,B0,reduceIte,a9]
   refine qh (v := .int .i64 v_1.To) rfl ?_
   simp only [hg39,qe (g:=28),qv,f34,qf,qz,qb,qd9,qw,zn,qa,qp,B0,reduceIte,a9]
   exact hN38 _ _ ⟨(n9 (n9 (n9 (n9 (n9 hS36))))),by rw [orF hg39]; simp only [B0,reduceIte,a9],f31,f32,f33⟩
 rintro fr40 h45 ⟨hS46,f41,f42,f43,f44⟩
 simp only [i0,i6]
 simp only [f41,qf,B0,reduceIte,a9]
 refine ji 14 (fun fr' h'=>Sep h' lo ([Blk1 b1 [.int .i64 v_0.Truth.Epoch,.int .i64 v_0.Truth.Leader,pv0_2,pv0_3,pv0_4] 28]++([Blk1 b9 [.int .i64 0,.int .i64 0,.nil,
   .nil,.nil] 28]++(pc0_2++(pc0_3++(pc0_4++(S0))))))∧fr' 48 = .bool (((((decide (v_1.K<0))||(decide ((f0 v_0.Nodes:Int)≤v_1.K)))||(decide
   (v_1.To<0)))||(decide ((f0 v_0.Nodes:Int)≤v_1.To)))||(((decide (v_1.Kind≠3))&&(decide (v_1.Kind≠4)))&&(decide
   (v_1.N≠0))))∧fr' 2 = .ptr b1 0∧fr' 3 = .ref [.int .i64 v_1.Kind,.int .i64 v_1.K,.int .i64 v_1.To,.int .i64 v_1.N] 0∧fr' 4 = .ptr b9 0) (fun Q47 hN48=>?_) ?_
 ·simp only [f4,i7]
  simp only [qe (g:=34),B0,reduceIte,a9]
  refine ze (t:=((((decide (v_1.K<0))||(decide ((f0 v_0.Nodes:Int)≤v_1.K)))||(decide (v_1.To<0)))||(decide
    ((f0 v_0.Nodes:Int)≤v_1.To)))) (fun hg49=>?_) (fun hg49=>?_)
  ·simp only [hg49,qe (g:=34),jk,qe (g:=38),xh,qe (g:=43),qw,qb,zo,qa,qp,B0,reduceIte,
    a9]
   exact hN48 _ _ ⟨(n9 (n9 (n9 (n9 (n9 hS46))))),by rw [orT hg49]; simp only [B0,reduceIte,a9],f42,f43,f44⟩
  ·simp only [hg49,qe (g:=34),qv,f43,qt,qb,d8,d9,e8,qs,qn,B0,reduceIte,a9]
   refine qh (v := .int .i64 v_1.Kind) rfl ?_
   simp only [hg49,qe (g:=34),qv,qz,qb,ya,qf,B0,reduceIte,a9]
   refine ji 4 (fun fr' h'=>Sep h' lo ([Blk1 b1 [.int .i64 v_0.Truth.Epoch,.int .i64 v_0.Truth.Leader,pv0_2,pv0_3,pv0_4] 28]++([Blk1 b9 [.int .i64 0,.int .i64 0,
     .nil,.nil,.nil] 28]++(pc0_2++(pc0_3++(pc0_4++(S0))))))∧fr' 42 = .bool ((decide (v_1.Kind≠3))&&(decide
     (v_1.Kind≠4)))∧fr' 2 = .ptr b1 0∧fr' 3 = .ref [.int .i64 v_1.Kind,.int .i64 v_1.K,.int .i64 v_1.To,
     .int .i64 v_1.N] 0∧fr' 4 = .ptr b9 0∧fr' 34 = .bool ((((decide (v_1.K<0))||(decide ((f0 v_0.Nodes:Int)≤v_1.K)))||(decide (v_1.To<0))) ||
     (decide ((f0 v_0.Nodes:Int)≤v_1.To)))) (fun Q50 hN51=>?_) ?_
   ·simp only [f4,i7]
    simp only [qe (g:=38),B0,reduceIte,a9]
    refine ze (t:=(decide (v_1.Kind≠3))) (fun hg52=>?_) (fun hg52=>?_)
    ·simp only [hg52,qe (g:=38),zi,f43,qt,qb,d8,d9,e8,qs,qn,B0,reduceIte,a9]
     refine qh (v := .int .i64 v_1.Kind) rfl ?_
     simp only [hg52,qe (g:=38),zi,qz,qb,ya,hg49,qe (g:=34),qv,qw,zo,qa,qp,B0,
       reduceIte,a9]
     exact hN51 _ _ ⟨(n9 (n9 (n9 (n9 (n9 hS46))))),by rw [yb hg52]; simp only [B0,reduceIte,a9],f42,f43,f44,by simp only [hg49,B0,
       reduceIte,a9]⟩
    ·simp only [hg52,qe (g:=38),jj,hg49,qe (g:=34),qv,qw,qb,zn,qa,qp,B0,reduceIte,a9]
     exact hN51 _ _ ⟨(n9 (n9 (n9 (n9 (n9 hS46))))),by rw [yd hg52]; simp only [B0,reduceIte,a9],f42,f43,f44,by simp only [hg49,B0,
       reduceIte,a9]⟩
   rintro fr53 h59 ⟨hS60,f54,f55,f56,f57,f58⟩
   simp only [i0,i6]
   simp only [f58,hg49,qe (g:=34),qv,f54,qf,B0,reduceIte,a9]
   refine ji 4 (fun fr' h'=>Sep h' lo ([Blk1 b1 [.int .i64 v_0.Truth.Epoch,.int .i64 v_0.Truth.Leader,pv0_2,pv0_3,pv0_4] 28]++([Blk1 b9 [.int .i64 0,.int .i64 0,
     .nil,.nil,.nil] 28]++(pc0_2++(pc0_3++(pc0_4++(S0))))))∧fr' 47 = .bool (((decide (v_1.Kind≠3))&&(decide (v_1.Kind≠4)))&&(decide
     (v_1.N≠0)))∧fr' 2 = .ptr b1 0∧fr' 3 = .ref [.int .i64 v_1.Kind,.int .i64 v_1.K,.int .i64 v_1.To,
     .int .i64 v_1.N] 0∧fr' 4 = .ptr b9 0∧fr' 34 = .bool ((((decide (v_1.K<0))||(decide ((f0 v_0.Nodes:Int)≤v_1.K)))||(decide (v_1.To<0))) ||
     (decide ((f0 v_0.Nodes:Int)≤v_1.To)))) (fun Q61 hN62=>?_) ?_
   ·simp only [f4,i7]
    simp only [qe (g:=43),B0,reduceIte,a9]
    refine ze (t:=((decide (v_1.Kind≠3))&&(decide (v_1.Kind≠4)))) (fun hg63=>?_) (fun hg63=>?_)
    ·simp only [hg63,qe (g:=43),zi,f56,qt,qb,d8,d9,e8,qs,qn,B0,reduceIte,a9]
     refine qh (v := .int .i64 v_1.N) rfl ?_
     simp only [hg63,qe (g:=43),zi,qz,qb,ya,f58,hg49,qe (g:=34),qv,qw,zo,qa,qp,B0,
       reduceIte,a9]
     exact hN62 _ _ ⟨(n9 (n9 (n9 (n9 (n9 hS60))))),by rw [yb hg63]; simp only [B0,reduceIte,a9],f55,f56,f57,by simp only [f58,hg49,
       B0,reduceIte,a9]⟩
    ·simp only [hg63,qe (g:=43),jj,f58,hg49,qe (g:=34),qv,qw,qb,zn,qa,qp,B0,reduceIte,
      a9]
     exact hN62 _ _ ⟨(n9 (n9 (n9 (n9 (n9 hS60))))),by rw [yd hg63]; simp only [B0,reduceIte,a9],f55,f56,f57,by simp only [f58,hg49,
       B0,reduceIte,a9]⟩
   rintro fr64 h70 ⟨hS71,f65,f66,f67,f68,f69⟩
   simp only [i0,i6]
   simp only [f69,hg49,qw,qb,zn,f65,qa,qp,B0,reduceIte,a9]
   exact hN48 _ _ ⟨(n9 (n9 (n9 (n9 (n9 hS71))))),by rw [orF hg49]; simp only [B0,reduceIte,a9],f66,f67,f68⟩
 rintro fr72 h77 ⟨hS78,f73,f74,f75,f76⟩
 simp only [i0,i6]
 simp only [f73,qf,B0,reduceIte,a9]
 refine ji 10 (fun fr' h'=>Sep h' lo ([Blk1 b1 [.int .i64 v_0.Truth.Epoch,.int .i64 v_0.Truth.Leader,pv0_2,pv0_3,pv0_4] 28]++([Blk1 b9 [.int .i64 0,.int .i64 0,.nil,
   .nil,.nil] 28]++(pc0_2++(pc0_3++(pc0_4++(S0))))))∧fr' 59 = .bool ((((((decide (v_1.K<0))||(decide ((f0 v_0.Nodes:Int)≤v_1.K)))||(decide
   (v_1.To<0)))||(decide ((f0 v_0.Nodes:Int)≤v_1.To)))||(((decide (v_1.Kind≠3))&&(decide (v_1.Kind≠4)))&&(decide (v_1.N≠0)))) ||
   ((!(ju v_1.Kind 4 6))&&(decide (v_1.To≠0))))∧fr' 2 = .ptr b1 0∧fr' 3 = .ref [.int .i64 v_1.Kind,.int .i64 v_1.K,.int .i64 v_1.To,
   .int .i64 v_1.N] 0∧fr' 4 = .ptr b9 0) (fun Q79 hN80=>?_) ?_
 ·simp only [f4,i7]
  simp only [qe (g:=49),B0,reduceIte,a9]
  refine ze (t:=(((((decide (v_1.K<0))||(decide ((f0 v_0.Nodes:Int)≤v_1.K)))||(decide (v_1.To<0)))||(decide
    ((f0 v_0.Nodes:Int)≤v_1.To)))||(((decide (v_1.Kind≠3))&&(decide (v_1.Kind≠4)))&&(decide (v_1.N≠0))))) (fun hg81=>?_) (fun hg81=>?_)
  ·simp only [hg81,qe (g:=49),jk,qe (g:=54),xh,qw,qb,zo,qa,qp,B0,reduceIte,a9]
   exact hN80 _ _ ⟨(n9 (n9 (n9 (n9 (n9 hS78))))),by rw [orT hg81]; simp only [B0,reduceIte,a9],f74,f75,f76⟩
  ·simp only [hg81,qe (g:=49),qv,f75,qt,qb,d8,d9,e8,qs,qn,B0,reduceIte,a9]
   refine qh (v := .int .i64 v_1.Kind) rfl ?_
   simp only [hg81,qe (g:=49),qv,zg,B0,reduceIte,a9]
   refine jo rfl (qi qo (qi qo (qi qo zc))) (qbi (fun b hb=>decide_eq_true hb) v_1.Kind 4 6 _ rfl) ?_
   simp only [hg81,qe (g:=49),qv,j8,qb,ko,qf,B0,reduceIte,a9]
   refine ji 4 (fun fr' h'=>Sep h' lo ([Blk1 b1 [.int .i64 v_0.Truth.Epoch,.int .i64 v_0.Truth.Leader,pv0_2,pv0_3,pv0_4] 28]++([Blk1 b9 [.int .i64 0,.int .i64 0,
     .nil,.nil,.nil] 28]++(pc0_2++(pc0_3++(pc0_4++(S0))))))∧fr' 58 = .bool ((!(ju v_1.Kind 4 6))&&(decide
     (v_1.To≠0)))∧fr' 2 = .ptr b1 0∧fr' 3 = .ref [.int .i64 v_1.Kind,.int .i64 v_1.K,.int .i64 v_1.To,
     .int .i64 v_1.N] 0∧fr' 4 = .ptr b9 0∧fr' 49 = .bool (((((decide (v_1.K<0))||(decide ((f0 v_0.Nodes:Int)≤v_1.K)))||(decide (v_1.To<0))) ||
     (decide ((f0 v_0.Nodes:Int)≤v_1.To)))||(((decide (v_1.Kind≠3))&&(decide (v_1.Kind≠4)))&&(decide (v_1.N≠0))))) (fun Q82 hN83=>?_) ?_
   ·simp only [f4,i7]
    simp only [qe (g:=54),B0,reduceIte,a9]
    refine ze (t:=(!(ju v_1.Kind 4 6))) (fun hg84=>?_) (fun hg84=>?_)
    ·simp only [hg84,qe (g:=54),zi,f75,qt,qb,d8,d9,e8,qs,qn,B0,reduceIte,a9]
     refine qh (v := .int .i64 v_1.To) rfl ?_
     simp only [hg84,qe (g:=54),zi,qz,qb,ya,hg81,qe (g:=49),qv,qw,zo,qa,qp,B0,
       reduceIte,a9]
     exact hN83 _ _ ⟨(n9 (n9 (n9 (n9 (n9 hS78))))),by rw [yb hg84]; simp only [B0,reduceIte,a9],f74,f75,f76,by simp only [hg81,B0,
       reduceIte,a9]⟩
    ·simp only [hg84,qe (g:=54),jj,hg81,qe (g:=49),qv,qw,qb,zn,qa,qp,B0,reduceIte,a9]
     exact hN83 _ _ ⟨(n9 (n9 (n9 (n9 (n9 hS78))))),by rw [yd hg84]; simp only [B0,reduceIte,a9],f74,f75,f76,by simp only [hg81,B0,
       reduceIte,a9]⟩
   rintro fr85 h91 ⟨hS92,f86,f87,f88,f89,f90⟩
   simp only [i0,i6]
   simp only [f90,hg81,qw,qb,zn,f86,qa,qp,B0,reduceIte,a9]
   exact hN80 _ _ ⟨(n9 (n9 (n9 (n9 (n9 hS92))))),by rw [orF hg81]; simp only [B0,reduceIte,a9],f87,f88,f89⟩
 rintro fr93 h98 ⟨hS99,f94,f95,f96,f97⟩
 simp only [i0,i6]
 simp only [qa,q3b,f94,q9,B0,reduceIte,a9]
 refine qy (t:=((((((decide (v_1.K<0))||(decide ((f0 v_0.Nodes:Int)≤v_1.K)))||(decide (v_1.To<0)))||(decide
   ((f0 v_0.Nodes:Int)≤v_1.To)))||(((decide (v_1.Kind≠3))&&(decide (v_1.Kind≠4)))&&(decide (v_1.N≠0))))||((!(ju v_1.Kind 4 6))&&(decide
   (v_1.To≠0))))) (fun hc100=>?_) (fun hc100=>?_)
 ·rw [iteT hc100] at hF
  simp only [qc,qd,f95,qn,B0,reduceIte,a9]
  refine qh (v := .agg [.int .i64 v_0.Truth.Epoch,.int .i64 v_0.Truth.Leader,pv0_2,pv0_3,pv0_4]) ((zu (o9 _ _ _ hS99)).trans rfl) ?_
  simp only [f97,zp,B0,reduceIte,a9]
  refine zm (us:=[.int .i64 v_0.Truth.Epoch,.int .i64 v_0.Truth.Leader,pv0_2,pv0_3,pv0_4]) rfl (cs':=[.int .i64 v_0.Truth.Epoch,.int .i64 v_0.Truth.Leader,
    pv0_2,pv0_3,pv0_4]) (n7 hS99) hW rfl (qm rfl (qm rfl (qm (l7 ph0_2) (qm (a09 ph0_3) (qm (l7 ph0_4) zq))))) (nle rfl) rfl
    (fun h101 hS102=>?_)
  simp only [qf,qa,qx,B0,reduceIte,a9]
  have he:=qj hF
  subst he
  refine jy (qi (j7 (bb:=b9) (oo:=0) (v := .agg [.int .i64 v_0.Truth.Epoch,.int .i64 v_0.Truth.Leader,pv0_2,pv0_3,
    pv0_4]) (f97) ((zu (o9 _ _ _ hS102)).trans rfl)) (qi (ye (v := .bool false) (rfl)) zc)) ?_
  exact ⟨pv0_2,pc0_2,pc0_3,pv0_4,pc0_4,by first | trivial | rfl,ph0_2,ph0_3,ph0_4,(l9 (l9 (l9 (o8 ((o8 (hS102)))))))⟩
 rw [iteF hc100] at hF
 simp only [zh,qv4,qc,qd,f95,qt,qb,d8,d9,e8,zd,qn,B0,reduceIte,a9]
 refine qh (v:=pv0_3) ((jv (o9 _ _ _ hS99)).trans rfl) ?_
 simp only [f96,qt,qb,d8,d9,e8,qs,qn,B0,reduceIte,a9]
 refine qh (v := .int .i64 v_1.K) rfl ?_
 obtain ⟨zj,hx104,hF105⟩:=qk hF
 simp only [jl,B0,reduceIte,a9]
 obtain ⟨b106,hb107⟩:=SlN.isrow ph0_3 (j9 hx104)
 refine qh (SlN.ia ph0_3 hb107 hx104) ?_
 obtain ⟨c108,cs109,os110,hv111,hR112,hS113⟩:=SlG.opn (SlN.toG ph0_3 hb107 Node.RO.len) hx104 z8 Node.RO.len (l6 hS99)
 obtain ⟨v115,c116,v119,c120,v123,c124,hv117,hv121,hv125,rfl,rfl⟩:=hR112
 have hS114:=Sep.no3 hS113
 simp only [qn,B0,reduceIte,a9]
 refine qh (v := .agg [.int .i64 zj.View.Epoch,.int .i64 zj.View.Leader,v115,v119,v123,
   .int .i64 zj.Told]) ((SlG.lds (o:=0) hv111 rfl hx104 hS114 (nle rfl)).trans rfl) ?_
 simp only [kd,B0,reduceIte,a9]
 refine jt hS114 (fun b127 h128 hS129=>?_)
 simp only [zp,B0,reduceIte,a9]
 refine zm (us:=[.int .i64 zj.View.Epoch,.int .i64 zj.View.Leader,v115,v119,v123,.int .i64 zj.Told]) rfl (cs':=[.int .i64 zj.View.Epoch,
   .int .i64 zj.View.Leader,v115,v119,v123,
   .int .i64 zj.Told]) hS129 hW rfl (qm rfl (qm rfl (qm (l7 hv117) (qm (l7 hv121) (qm (l7 hv125) (qm rfl zq)))))) (nle rfl) rfl
   (fun h131 hS132=>?_)
 simp only [qa,qsq,qc,qd,f95,qn,B0,reduceIte,a9]
 refine qh (v := .agg [.int .i64 v_0.Truth.Epoch,.int .i64 v_0.Truth.Leader,pv0_2,pv0_3,pv0_4]) ((zu (o9 _ _ _ (t9 hS132))).trans rfl) ?_
 simp only [f96,qt,qb,d8,d9,e8,qs,qn,B0,reduceIte,a9]
 refine qh (v := .int .i64 v_1.K) rfl ?_
 obtain ⟨c133,hv134,hS135⟩:=a0z (c:=c108) (os:=c116++(c120++(c124))) hv111 rfl hx104 z8 (Node.RI (x:=zj) hv117 hv121 hv125) (a0q (c1:=c116)
   (c2:=c120) (c3:=c124) (n9 (n9 (n9 (n9 hS132)))))
 have hv136:=a0s hv134
 obtain ⟨v137,hx138,hF139⟩:=qk hF105
 simp only [zg,B0,reduceIte,a9]
 refine jo rfl (qi (zv (qi qo (qi qo (qi (a0c ph0_2 (n9 hS135) rfl (fun _=>rfl) (fun _=>rfl)) (qi
   (SlN.snap hv136 _ hS135 rfl Node.RO) (qi (a0c ph0_4 (t9 hS135) rfl (fun _=>rfl) (fun _=>rfl)) zc)))))) (qi qo zc)) (qeg
   (fun b hb=>decide_eq_true hb) v_0 v_1.K v137 hx138) ?_
 simp only [qf,qa,qwy,qc,qd,B0,reduceIte,a9]
 refine ji 8 (fun fr' h'=>Sep h' lo ([Blk1 b1 [.int .i64 v_0.Truth.Epoch,.int .i64 v_0.Truth.Leader,pv0_2,pv0_3,pv0_4] 28]++([Blk1 b9 [.int .i64 0,.int .i64 0,.nil,
   .nil,.nil] 28]++([Blk1 b127 [.int .i64 zj.View.Epoch,.int .i64 zj.View.Leader,v115,v119,v123,
   .int .i64 zj.Told] 68]++(pc0_2++(c108++(pc0_4++(c116++(c120++(c124++(S0))))))))))∧fr' 80 = .bool (v137&&(decide
   (zj.View.Epoch=v_0.Truth.Epoch)))∧fr' 2 = .ptr b1 0∧fr' 3 = .ref [.int .i64 v_1.Kind,.int .i64 v_1.K,.int .i64 v_1.To,
   .int .i64 v_1.N] 0∧fr' 4 = .ptr b9 0∧fr' 7 = .ptr b127 0∧fr' 8 = .bool v137) (fun Q140 hN141=>?_) ?_
 ·simp only [f4,i7]
  simp only [qe (g:=72),B0,reduceIte,a9]
  refine ze (t:=v137) (fun hg142=>?_) (fun hg142=>?_)
  ·simp only [hg142,qe (g:=72),zi,qt,qb,d8,d9,e8,zd,qn,B0,reduceIte,a9]
   refine qh (v := .int .i64 zj.View.Epoch) ((jv (o9 _ _ _ hS132)).trans rfl) ?_
   simp only [hg142,qe (g:=72),zi,f95,qt,qb,d8,d9,e8,zd,qn,B0,reduceIte,a9]
   refine qh (v := .int .i64 v_0.Truth.Epoch) ((jv (o9 _ _ _ (t9 hS132))).trans rfl) ?_
   simp only [hg142,qe (g:=72),zi,qz,qb,k6,qw,zo,qa,qp,B0,reduceIte,a9]
   exact hN141 _ _ ⟨(i5 (i5 (s9 (i5 (t9 (i5 (n9 (n9 (n9 hS132))))))))),by rw [yb hg142]; simp only [B0,reduceIte,a9],f95,
     f96,f97,rfl,by simp only [B0,reduceIte,a9,hg142]⟩
  ·simp only [hg142,qe (g:=72),jj,qw,qb,zn,qa,qp,B0,reduceIte,a9]
   exact hN141 _ _ ⟨(i5 (i5 (s9 (i5 (t9 (i5 (n9 (n9 (n9 hS132))))))))),by rw [yd hg142]; simp only [B0,reduceIte,a9],f95,
     f96,f97,rfl,by simp only [B0,reduceIte,a9,hg142]⟩
 rintro fr143 h150 ⟨hS151,f144,f145,f146,f147,f148,f149⟩
 simp only [i0,i6]
 simp only [f144,qf,B0,reduceIte,a9]
 refine ji 6 (fun fr' h'=>Sep h' lo ([Blk1 b1 [.int .i64 v_0.Truth.Epoch,.int .i64 v_0.Truth.Leader,pv0_2,pv0_3,pv0_4] 28]++([Blk1 b9 [.int .i64 0,.int .i64 0,.nil,
   .nil,.nil] 28]++([Blk1 b127 [.int .i64 zj.View.Epoch,.int .i64 zj.View.Leader,v115,v119,v123,
   .int .i64 zj.Told] 68]++(pc0_2++(c108++(pc0_4++(c116++(c120++(c124++(S0))))))))))∧fr' 87 = .bool ((v137&&(decide
   (zj.View.Epoch=v_0.Truth.Epoch)))&&(decide (v_1.To≠v_1.K)))∧fr' 2 = .ptr b1 0∧fr' 3 = .ref [.int .i64 v_1.Kind,.int .i64 v_1.K,.int .i64 v_1.To,
   .int .i64 v_1.N] 0∧fr' 4 = .ptr b9 0∧fr' 7 = .ptr b127 0∧fr' 8 = .bool v137) (fun Q152 hN153=>?_) ?_
 ·simp only [f4,i7]
  simp only [qe (g:=81),B0,reduceIte,a9]
  refine ze (t:=(v137&&(decide (zj.View.Epoch=v_0.Truth.Epoch)))) (fun hg154=>?_) (fun hg154=>?_)
  ·simp only [hg154,qe (g:=81),zi,f146,qt,qb,d8,d9,e8,qs,qn,B0,reduceIte,a9]
   refine qh (v := .int .i64 v_1.To) rfl ?_
   simp only [hg154,qe (g:=81),zi,f146,qt,qb,d8,d9,e8,qs,qn,B0,reduceIte,a9]
   refine qh (v := .int .i64 v_1.K) rfl ?_
   simp only [hg154,qe (g:=81),zi,qz,qb,ya,qw,zo,qa,qp,B0,reduceIte,a9]
   exact hN153 _ _ ⟨(i5 (i5 (i5 (i5 (i5 (i5 (i5 (i5 (i5 hS151))))))))),by rw [yb hg154]; simp only [B0,reduceIte,a9],f145,
     f146,f147,f148,f149⟩
  ·simp only [hg154,qe (g:=81),jj,qw,qb,zn,qa,qp,B0,reduceIte,a9]
   exact hN153 _ _ ⟨(i5 (i5 (i5 (i5 (i5 (i5 (i5 (i5 (i5 hS151))))))))),by rw [yd hg154]; simp only [B0,reduceIte,a9],f145,
     f146,f147,f148,f149⟩
 rintro fr155 h162 ⟨hS163,f156,f157,f158,f159,f160,f161⟩
 simp only [i0,i6]
 simp only [f156,qf,qa,qvf,qc,qd,f157,qt,qb,d8,d9,e8,zd,qn,B0,reduceIte,a9]
 refine qh (v:=pv0_2) ((jv (o9 _ _ _ hS163)).trans rfl) ?_
 simp only [f158,qt,qb,d8,d9,e8,qs,qn,B0,reduceIte,a9]
 refine qh (v := .int .i64 v_1.To) rfl ?_
 obtain ⟨v164,hx165,hF166⟩:=qk hF139
 simp only [zg,B0,reduceIte,a9]
 refine jo rfl (qi (a0c ph0_2 (l6 hS163) rfl (fun _=>rfl) (fun _=>rfl)) (qi qo zc)) (qdc
   (fun b hb=>decide_eq_true hb) v_0.Truth.InStep v_1.To v164 hx165) ?_
 simp only [qf,qa,qt1,qc,kz,qv6,qd,f158,qt,qb,d8,d9,e8,qs,qn,B0,reduceIte,
   a9]
 refine qh (v := .int .i64 v_1.Kind) rfl ?_
 simp only [qz,qb,k6,qf,B0,reduceIte,a9]
 obtain ⟨v170,hx171,hF172⟩:=qk hF166
 refine ji 7 (fun fr' h'=>Sep h' lo ([Blk1 b1 [.int .i64 v_0.Truth.Epoch,.int .i64 v_0.Truth.Leader,pv0_2,pv0_3,pv0_4] 28]++([Blk1 b9 [.int .i64 0,.int .i64 0,.nil,
   .nil,.nil] 28]++([Blk1 b127 [.int .i64 zj.View.Epoch,.int .i64 zj.View.Leader,v115,v119,v123,
   .int .i64 zj.Told] 68]++(pc0_2++(c108++(pc0_4++(c116++(c120++(c124 ++
   (S0))))))))))∧fr' 106 = .bool v170∧fr' 2 = .ptr b1 0∧fr' 3 = .ref [.int .i64 v_1.Kind,.int .i64 v_1.K,.int .i64 v_1.To,
   .int .i64 v_1.N] 0∧fr' 4 = .ptr b9 0∧fr' 7 = .ptr b127 0∧fr' 8 = .bool v137∧fr' 9 = .bool ((v137&&(decide (zj.View.Epoch=v_0.Truth.Epoch)))&&(decide
   (v_1.To≠v_1.K)))∧fr' 10 = .bool v164) (fun Q167 hN168=>?_) ?_
 ·simp only [f4,i7]
  simp only [qe (g:=99),B0,reduceIte,a9]
  refine ze (t:=(decide (v_1.Kind=1))) (fun hg169=>?_) (fun hg169=>?_)
  ·rw [iteT hg169] at hx171
   simp only [hg169,qe (g:=99),zi,f157,qt,qb,d8,d9,e8,zd,qn,B0,reduceIte,a9]
   refine qh (v:=pv0_2) ((jv (o9 _ _ _ hS163)).trans rfl) ?_
   simp only [hg169,qe (g:=99),zi,f158,qt,qb,d8,d9,e8,qs,qn,B0,reduceIte,a9]
   refine qh (v := .int .i64 v_1.K) rfl ?_
   obtain ⟨v173,hx174,hF175⟩:=qk hx171
   simp only [hg169,qe (g:=99),zi,zg,B0,reduceIte,a9]
   refine jo rfl (qi (a0c ph0_2 (l6 hS163) rfl (fun _=>rfl) (fun _=>rfl)) (qi qo zc)) (qdc
     (fun b hb=>decide_eq_true hb) v_0.Truth.InStep v_1.K v173 hx174) ?_
   simp only [hg169,qw,qb,zo,qa,qp,B0,reduceIte,a9]
   have e176:=qj hF175
   exact hN168 _ _ ⟨(i5 (i5 (i5 (i5 (i5 (i5 (i5 (i5 (i5 hS163))))))))),by rw [←e176]; simp only [B0,reduceIte,a9],f157,f158,
     f159,f160,f161,rfl,rfl⟩
  ·rw [iteF hg169] at hx171
   simp only [hg169,qe (g:=99),jj,qw,qb,zn,qa,qp,B0,reduceIte,a9]
   have e177:=qj hx171
   exact hN168 _ _ ⟨(i5 (i5 (i5 (i5 (i5 (i5 (i5 (i5 (i5 hS163))))))))),by rw [←e177]; simp only [B0,reduceIte,a9],f157,f158,
     f159,f160,f161,rfl,rfl⟩
 rintro fr178 h187 ⟨hS188,f179,f180,f181,f182,f183,f184,f185,f186⟩
 simp only [i0,i6]
 simp only [f179,qf,B0,reduceIte,a9]
 refine ji 5 (fun fr' h'=>Sep h' lo ([Blk1 b1 [.int .i64 v_0.Truth.Epoch,.int .i64 v_0.Truth.Leader,pv0_2,pv0_3,pv0_4] 28]++([Blk1 b9 [.int .i64 0,.int .i64 0,.nil,
   .nil,.nil] 28]++([Blk1 b127 [.int .i64 zj.View.Epoch,.int .i64 zj.View.Leader,v115,v119,v123,
   .int .i64 zj.Told] 68]++(pc0_2++(c108++(pc0_4++(c116++(c120++(c124++(S0))))))))))∧fr' 112 = .bool (v170&&(decide
   (v_0.Truth.Epoch<100)))∧fr' 2 = .ptr b1 0∧fr' 3 = .ref [.int .i64 v_1.Kind,.int .i64 v_1.K,.int .i64 v_1.To,
   .int .i64 v_1.N] 0∧fr' 4 = .ptr b9 0∧fr' 7 = .ptr b127 0∧fr' 8 = .bool v137∧fr' 9 = .bool ((v137&&(decide (zj.View.Epoch=v_0.Truth.Epoch)))&&(decide
   (v_1.To≠v_1.K)))∧fr' 10 = .bool v164) (fun Q189 hN190=>?_) ?_
 ·simp only [f4,i7]
  simp only [qe (g:=107),B0,reduceIte,a9]
  refine ze (t:=v170) (fun hg191=>?_) (fun hg191=>?_)
  ·simp only [hg191,qe (g:=107),zi,f180,qt,qb,d8,d9,e8,zd,qn,B0,reduceIte,a9]
   refine qh (v := .int .i64 v_0.Truth.Epoch) ((jv (o9 _ _ _ hS188)).trans rfl) ?_
   simp only [hg191,qe (g:=107),zi,qz,qb,kq,qw,zo,qa,qp,B0,reduceIte,a9]
   exact hN190 _ _ ⟨(i5 (i5 (i5 (i5 (i5 (i5 (i5 (i5 (i5 hS188))))))))),by rw [yb hg191]; simp only [B0,reduceIte,a9],f180,
     f181,f182,f183,f184,f185,f186⟩
  ·simp only [hg191,qe (g:=107),jj,qw,qb,zn,qa,qp,B0,reduceIte,a9]
   exact hN190 _ _ ⟨(i5 (i5 (i5 (i5 (i5 (i5 (i5 (i5 (i5 hS188))))))))),by rw [yd hg191]; simp only [B0,reduceIte,a9],f180,
     f181,f182,f183,f184,f185,f186⟩
 rintro fr192 h201 ⟨hS202,f193,f194,f195,f196,f197,f198,f199,f200⟩
 simp only [i0,i6]
 simp only [f193,qf,qa,qwf,q9,B0,reduceIte,a9]
 refine qy (t:=(v170&&(decide (v_0.Truth.Epoch<100)))) (fun hc203=>?_) (fun hc203=>?_)
 ·rw [iteT hc203] at hF172
  simp only [q1g,qc,qd,f194,qt,qb,d8,d9,e8,zd,qn,B0,reduceIte,a9]
  refine qh (v := .int .i64 v_0.Truth.Epoch) ((jv (o9 _ _ _ hS202)).trans rfl) ?_
  simp only [qz,qb,wn,f194,qt,d8,d9,e8,zd,zp,B0,reduceIte,a9]
  refine zm (us:=[.int .i64 (l4 .i64 (v_0.Truth.Epoch+1))]) rfl (cs':=[.int .i64 (l4 .i64 (v_0.Truth.Epoch+1)),.int .i64 v_0.Truth.Leader,
    pv0_2,pv0_3,pv0_4]) hS202 hW rfl rfl (nle rfl) rfl (fun h204 hS205=>?_)
  simp only [qa,qzs,qd,f195,qt,qb,d8,d9,e8,qs,qn,B0,reduceIte,a9]
  refine qh (v := .int .i64 v_1.K) rfl ?_
  simp only [f194,qt,qb,d8,d9,e8,zd,zp,B0,reduceIte,a9]
  refine zm (us:=[.int .i64 v_1.K]) rfl (cs':=[.int .i64 (l4 .i64 (v_0.Truth.Epoch+1)),.int .i64 v_1.K,pv0_2,pv0_3,
    pv0_4]) hS205 hW rfl rfl (nle rfl) rfl (fun h206 hS207=>?_)
  simp only [qa,yl,qc,qd,f194,qn,B0,reduceIte,a9]
  refine qh (v := .agg [.int .i64 (l4 .i64 (v_0.Truth.Epoch+1)),.int .i64 v_1.K,pv0_2,pv0_3,pv0_4]) ((zu (o9 _ _ _ hS207)).trans rfl) ?_
  simp only [f196,zp,B0,reduceIte,a9]
  refine zm (us:=[.int .i64 (l4 .i64 (v_0.Truth.Epoch+1)),.int .i64 v_1.K,pv0_2,pv0_3,
    pv0_4]) rfl (cs':=[.int .i64 (l4 .i64 (v_0.Truth.Epoch+1)),.int .i64 v_1.K,pv0_2,pv0_3,
    pv0_4]) (n7 hS207) hW rfl (qm rfl (qm rfl (qm (l7 ph0_2) (qm (a3g hv111) (qm (l7 ph0_4) zq))))) (nle rfl) rfl (fun h208 hS209=>?_)
  simp only [qf,qa,qx,B0,reduceIte,a9]
  obtain ⟨c210,hv211,hS212⟩:=a0z (c:=c108) (os:=c116++(c120++(c124))) hv111 rfl hx104 z8 (Node.RI (x:=zj) hv117 hv121 hv125) (a0q (c1:=c116)
    (c2:=c120) (c3:=c124) (o7 (i5 (i5 (i5 hS209)))))
  have hv213:=a0s hv211
  have he:=qj hF172
  subst he
  refine jy (qi (j7 (bb:=b9) (oo:=0) (v := .agg [.int .i64 (l4 .i64 (v_0.Truth.Epoch+1)),.int .i64 v_1.K,pv0_2,pv0_3,
    pv0_4]) (f196) ((zu (o9 _ _ _ (n7 hS212))).trans rfl)) (qi (ye (v := .bool true) (rfl)) zc)) ?_
  exact ⟨pv0_2,pc0_2,c210,pv0_4,pc0_4,by first | trivial | rfl,ph0_2,hv213,ph0_4,(l9 (n7 (l9 (o8 (n7 (o8 (n7 (o8 (n7 hS212)))))))))⟩
 rw [iteF hc203] at hF172
 simp only [qve,qc,qd,f195,qt,qb,d8,d9,e8,qs,qn,B0,reduceIte,a9]
 refine qh (v := .int .i64 v_1.Kind) rfl ?_
 simp only [qz,qb,k6,qf,B0,reduceIte,a9]
 obtain ⟨v217,hx218,hF219⟩:=qk hF172
 refine ji 7 (fun fr' h'=>Sep h' lo ([Blk1 b1 [.int .i64 v_0.Truth.Epoch,.int .i64 v_0.Truth.Leader,pv0_2,pv0_3,pv0_4] 28]++([Blk1 b9 [.int .i64 0,.int .i64 0,.nil,
   .nil,.nil] 28]++([Blk1 b127 [.int .i64 zj.View.Epoch,.int .i64 zj.View.Leader,v115,v119,v123,
   .int .i64 zj.Told] 68]++(pc0_2++(c108++(pc0_4++(c116++(c120++(c124 ++
   (S0))))))))))∧fr' 134 = .bool v217∧fr' 2 = .ptr b1 0∧fr' 3 = .ref [.int .i64 v_1.Kind,.int .i64 v_1.K,.int .i64 v_1.To,
   .int .i64 v_1.N] 0∧fr' 4 = .ptr b9 0∧fr' 7 = .ptr b127 0∧fr' 8 = .bool v137∧fr' 9 = .bool ((v137&&(decide (zj.View.Epoch=v_0.Truth.Epoch)))&&(decide
   (v_1.To≠v_1.K)))∧fr' 10 = .bool v164) (fun Q214 hN215=>?_) ?_
 ·simp only [f4,i7]
  simp only [qe (g:=127),B0,reduceIte,a9]
  refine ze (t:=(decide (v_1.Kind=2))) (fun hg216=>?_) (fun hg216=>?_)
  ·rw [iteT hg216] at hx218
   simp only [hg216,qe (g:=127),zi,f197,qt,qb,d8,d9,e8,zd,qn,B0,reduceIte,a9]
   refine qh (v := .agg [.int .i64 zj.View.Epoch,.int .i64 zj.View.Leader,v115]) ((zu (o9 _ _ _ (l9 hS202))).trans rfl) ?_
   simp only [hg216,qe (g:=127),zi,f194,qt,qb,d8,d9,e8,zd,qn,B0,reduceIte,a9]
   refine qh (v := .agg [.int .i64 v_0.Truth.Epoch,.int .i64 v_0.Truth.Leader,pv0_2]) ((zu (o9 _ _ _ hS202)).trans rfl) ?_
   obtain ⟨v220,hx221,hF222⟩:=qk hx218
   simp only [hg216,qe (g:=127),zi,zg,B0,reduceIte,a9]
   refine jo rfl (qi (zv (qi qo (qi qo (qi (a0c hv117 (s9 hS202) rfl (fun _=>rfl) (fun _=>rfl)) zc)))) (qi (zv
     (qi qo (qi qo (qi (a0c ph0_2 (l6 hS202) rfl (fun _=>rfl) (fun _=>rfl)) zc)))) zc)) (qm4
     (fun b hb=>decide_eq_true hb) zj.View v_0.Truth v220 hx221) ?_
   simp only [hg216,qe (g:=127),zi,j8,qb,ko,qw,zo,qa,qp,B0,reduceIte,a9]
   have e223:=qj hF222
   exact hN215 _ _ ⟨(i5 (i5 (i5 (i5 (i5 (i5 (i5 (i5 (i5 hS202))))))))),by rw [←e223]; simp only [B0,reduceIte,a9],f194,f195,
     f196,f197,f198,f199,f200⟩
  ·rw [iteF hg216] at hx218
   simp only [hg216,qe (g:=127),jj,qw,qb,zn,qa,qp,B0,reduceIte,a9]
   have e224:=qj hx218
   exact hN215 _ _ ⟨(i5 (i5 (i5 (i5 (i5 (i5 (i5 (i5 (i5 hS202))))))))),by rw [←e224]; simp only [B0,reduceIte,a9],f194,f195,
     f196,f197,f198,f199,f200⟩
 rintro fr225 h234 ⟨hS235,f226,f227,f228,f229,f230,f231,f232,f233⟩
 simp only [i0,i6]
 simp only [f226,qf,qa,qv0,q9,B0,reduceIte,a9]
 refine qy (t:=v217) (fun hc236=>?_) (fun hc236=>?_)
 ·rw [iteT hc236] at hF219
  simp only [q2d,qc,qd,f227,qn,B0,reduceIte,a9]
  refine qh (v := .agg [.int .i64 v_0.Truth.Epoch,.int .i64 v_0.Truth.Leader,pv0_2,pv0_3,pv0_4]) ((zu (o9 _ _ _ hS235)).trans rfl) ?_
  simp only [f228,qt,qb,d8,d9,e8,qs,qn,B0,reduceIte,a9]
  refine qh (v := .int .i64 v_1.K) rfl ?_
  obtain ⟨c237,hv238,hS239⟩:=a0z (c:=c108) (os:=c116++(c120++(c124))) hv111 rfl hx104 z8 (Node.RI (x:=zj) hv117 hv121 hv125) (a0q (c1:=c116)
    (c2:=c120) (c3:=c124) (o7 (i5 (i5 (i5 hS235)))))
  have hv240:=a0s hv238
  obtain ⟨v241,hx242,hF243⟩:=qk hF219
  simp only [zg,B0,reduceIte,a9]
  refine y9 rfl (qmh hW v_0 pv0_2 pc0_2 ph0_2 pv0_3 c237 hv240 pv0_4 pc0_4 ph0_4 v_1.K v241 hx242 (t9 (n7 (t9 hS239)))) ?_
  rintro _ h250 ⟨c244,c246,c248,rfl,hv245,hv247,hv249,hS251⟩
  simp only [f229,zp,B0,reduceIte,a9]
  refine zm (us:=[.int .i64 v241.Truth.Epoch,.int .i64 v241.Truth.Leader,pv0_2,pv0_3,pv0_4]) rfl (cs':=[.int .i64 v241.Truth.Epoch,.int .i64 v241.Truth.Leader,
    pv0_2,pv0_3,pv0_4]) (n9 hS251) hW rfl (qm rfl (qm rfl (qm (l7 hv245) (qm (a09 hv247) (qm (l7 hv249) zq))))) (nle rfl) rfl
    (fun h252 hS253=>?_)
  simp only [qf,qa,qx,B0,reduceIte,a9]
  have he:=qj hF243
  subst he
  refine jy (qi (j7 (bb:=b9) (oo:=0) (v := .agg [.int .i64 v241.Truth.Epoch,.int .i64 v241.Truth.Leader,pv0_2,pv0_3,
    pv0_4]) (f229) ((zu (o9 _ _ _ hS253)).trans rfl)) (qi (ye (v := .bool true) (rfl)) zc)) ?_
  exact ⟨pv0_2,c244,c246,pv0_4,c248,by first | trivial | rfl,hv245,hv247,hv249,(l9 (l9 (l9 (o8 (l6 (o8 (l6 (o8 (hS253)))))))))⟩
 rw [iteF hc236] at hF219
 simp only [qwr,qc,qd,f228,qt,qb,d8,d9,e8,qs,qn,B0,reduceIte,a9]
 refine qh (v := .int .i64 v_1.Kind) rfl ?_
 simp only [qz,qb,k6,qf,B0,reduceIte,a9]
 refine ji 2 (fun fr' h'=>Sep h' lo ([Blk1 b1 [.int .i64 v_0.Truth.Epoch,.int .i64 v_0.Truth.Leader,pv0_2,pv0_3,pv0_4] 28]++([Blk1 b9 [.int .i64 0,.int .i64 0,.nil,
   .nil,.nil] 28]++([Blk1 b127 [.int .i64 zj.View.Epoch,.int .i64 zj.View.Leader,v115,v119,v123,
   .int .i64 zj.Told] 68]++(pc0_2++(c108++(pc0_4++(c116++(c120++(c124++(S0))))))))))∧fr' 145 = .bool ((decide
   (v_1.Kind=3))&&v137)∧fr' 2 = .ptr b1 0∧fr' 3 = .ref [.int .i64 v_1.Kind,.int .i64 v_1.K,.int .i64 v_1.To,
   .int .i64 v_1.N] 0∧fr' 4 = .ptr b9 0∧fr' 7 = .ptr b127 0∧fr' 8 = .bool v137∧fr' 9 = .bool ((v137&&(decide (zj.View.Epoch=v_0.Truth.Epoch)))&&(decide
   (v_1.To≠v_1.K)))∧fr' 10 = .bool v164) (fun Q254 hN255=>?_) ?_
 ·simp only [f4,i7]
  simp only [qe (g:=143),B0,reduceIte,a9]
  refine ze (t:=(decide (v_1.Kind=3))) (fun hg256=>?_) (fun hg256=>?_)
  ·simp only [hg256,qe (g:=143),zi,f231,qf,qw,qb,zo,qa,qp,B0,reduceIte,a9]
   exact hN255 _ _ ⟨(i5 (i5 (i5 (i5 (i5 (i5 (i5 (i5 (i5 hS235))))))))),by rw [yb hg256]; simp only [B0,reduceIte,a9],f227,
     f228,f229,f230,f231,f232,f233⟩
  ·simp only [hg256,qe (g:=143),jj,qw,qb,zn,qa,qp,B0,reduceIte,a9]
   exact hN255 _ _ ⟨(i5 (i5 (i5 (i5 (i5 (i5 (i5 (i5 (i5 hS235))))))))),by rw [yd hg256]; simp only [B0,reduceIte,a9],f227,
     f228,f229,f230,f231,f232,f233⟩
 rintro fr257 h266 ⟨hS267,f258,f259,f260,f261,f262,f263,f264,f265⟩
 simp only [i0,i6]
 simp only [f258,qf,B0,reduceIte,a9]
 refine ji 4 (fun fr' h'=>Sep h' lo ([Blk1 b1 [.int .i64 v_0.Truth.Epoch,.int .i64 v_0.Truth.Leader,pv0_2,pv0_3,pv0_4] 28]++([Blk1 b9 [.int .i64 0,.int .i64 0,.nil,
   .nil,.nil] 28]++([Blk1 b127 [.int .i64 zj.View.Epoch,.int .i64 zj.View.Leader,v115,v119,v123,
   .int .i64 zj.Told] 68]++(pc0_2++(c108++(pc0_4++(c116++(c120++(c124++(S0))))))))))∧fr' 150 = .bool (((decide (v_1.Kind=3))&&v137) &&
   (ju v_1.N 0 99))∧fr' 2 = .ptr b1 0∧fr' 3 = .ref [.int .i64 v_1.Kind,.int .i64 v_1.K,.int .i64 v_1.To,
   .int .i64 v_1.N] 0∧fr' 4 = .ptr b9 0∧fr' 7 = .ptr b127 0∧fr' 8 = .bool v137∧fr' 9 = .bool ((v137&&(decide (zj.View.Epoch=v_0.Truth.Epoch)))&&(decide
   (v_1.To≠v_1.K)))∧fr' 10 = .bool v164) (fun Q268 hN269=>?_) ?_
 ·simp only [f4,i7]
  simp only [qe (g:=146),B0,reduceIte,a9]
  refine ze (t:=((decide (v_1.Kind=3))&&v137)) (fun hg270=>?_) (fun hg270=>?_)
  ·simp only [hg270,qe (g:=146),zi,f260,qt,qb,d8,d9,e8,qs,qn,B0,reduceIte,a9]
   refine qh (v := .int .i64 v_1.N) rfl ?_
   simp only [hg270,qe (g:=146),zi,zg,B0,reduceIte,a9]
   refine jo rfl (qi qo (qi qo (qi qo zc))) (qbi (fun b hb=>decide_eq_true hb) v_1.N 0 99 _ rfl) ?_
   simp only [hg270,qw,qb,zo,qa,qp,B0,reduceIte,a9]
   exact hN269 _ _ ⟨(i5 (i5 (i5 (i5 (i5 (i5 (i5 (i5 (i5 hS267))))))))),by rw [yb hg270]; simp only [B0,reduceIte,a9],f259,
     f260,f261,f262,f263,f264,f265⟩
  ·simp only [hg270,qe (g:=146),jj,qw,qb,zn,qa,qp,B0,reduceIte,a9]
   exact hN269 _ _ ⟨(i5 (i5 (i5 (i5 (i5 (i5 (i5 (i5 (i5 hS267))))))))),by rw [yd hg270]; simp only [B0,reduceIte,a9],f259,
     f260,f261,f262,f263,f264,f265⟩
 rintro fr271 h280 ⟨hS281,f272,f273,f274,f275,f276,f277,f278,f279⟩
 simp only [i0,i6]
 simp only [f272,qf,B0,reduceIte,a9]
 refine ji 5 (fun fr' h'=>Sep h' lo ([Blk1 b1 [.int .i64 v_0.Truth.Epoch,.int .i64 v_0.Truth.Leader,pv0_2,pv0_3,pv0_4] 28]++([Blk1 b9 [.int .i64 0,.int .i64 0,.nil,
   .nil,.nil] 28]++([Blk1 b127 [.int .i64 zj.View.Epoch,.int .i64 zj.View.Leader,v115,v119,v123,
   .int .i64 zj.Told] 68]++(pc0_2++(c108++(pc0_4++(c116++(c120++(c124++(S0))))))))))∧fr' 156 = .bool ((((decide (v_1.Kind=3))&&v137) &&
   (ju v_1.N 0 99))&&(decide ((f0 zj.Log:Int)<30)))∧fr' 2 = .ptr b1 0∧fr' 3 = .ref [.int .i64 v_1.Kind,.int .i64 v_1.K,.int .i64 v_1.To,
   .int .i64 v_1.N] 0∧fr' 4 = .ptr b9 0∧fr' 7 = .ptr b127 0∧fr' 8 = .bool v137∧fr' 9 = .bool ((v137&&(decide (zj.View.Epoch=v_0.Truth.Epoch)))&&(decide
   (v_1.To≠v_1.K)))∧fr' 10 = .bool v164) (fun Q282 hN283=>?_) ?_
 ·simp only [f4,i7]
  simp only [qe (g:=151),B0,reduceIte,a9]
  refine ze (t:=(((decide (v_1.Kind=3))&&v137)&&(ju v_1.N 0 99))) (fun hg284=>?_) (fun hg284=>?_)
  ·simp only [hg284,qe (g:=151),zi,f276,qt,qb,d8,d9,e8,zd,qn,B0,reduceIte,a9]
   refine qh (v:=v119) ((jv (o9 _ _ _ (l9 hS281))).trans rfl) ?_
   simp only [hg284,qe (g:=151),zi,zy,qb,SlF.plen hv121,qz,kq,qw,zo,qa,qp,B0,reduceIte,a9]
   exact hN283 _ _ ⟨(i5 (i5 (i5 (i5 (i5 (i5 (i5 (i5 (i5 hS281))))))))),by rw [yb hg284]; simp only [B0,reduceIte,a9],f273,
     f274,f275,f276,f277,f278,f279⟩
  ·simp only [hg284,qe (g:=151),jj,qw,qb,zn,qa,qp,B0,reduceIte,a9]
   exact hN283 _ _ ⟨(i5 (i5 (i5 (i5 (i5 (i5 (i5 (i5 (i5 hS281))))))))),by rw [yd hg284]; simp only [B0,reduceIte,a9],f273,
     f274,f275,f276,f277,f278,f279⟩
 rintro fr285 h294 ⟨hS295,f286,f287,f288,f289,f290,f291,f292,f293⟩
 simp only [i0,i6]
 simp only [f286,qf,qa,qs7,q9,B0,reduceIte,a9]
 refine qy (t:=((((decide (v_1.Kind=3))&&v137)&&(ju v_1.N 0 99))&&(decide ((f0 zj.Log:Int)<30)))) (fun hc296=>?_) (fun hc296=>?_)
 ·rw [iteT hc296] at hF219
  simp only [q2q,qc,qd,f290,qt,qb,d8,d9,e8,zd,qn,B0,reduceIte,a9]
  refine qh (v:=v119) ((jv (o9 _ _ _ (l9 hS295))).trans rfl) ?_
  simp only [f290,qt,qb,d8,d9,e8,zd,qn,B0,reduceIte,a9]
  refine qh (v := .int .i64 zj.View.Epoch) ((jv (o9 _ _ _ (l9 hS295))).trans rfl) ?_
  simp only [f288,qt,qb,d8,d9,e8,qs,qn,B0,reduceIte,a9]
  refine qh (v := .int .i64 v_1.N) rfl ?_
  simp only [run_build,evp,B0,reduceIte,a9]
  refine qh (v := .agg [.int .i64 zj.View.Epoch,.int .i64 v_1.N]) rfl ?_
  simp only [ws,evp,B0,reduceIte,a9]
  refine yp (n:=2) (f:=qg) [(Row.mk zj.View.Epoch v_1.N)] hS295 rfl rfl (fun v297 c298 h299 hv300 hS301=>?_)
  simp only [um,B0,reduceIte,a9]
  obtain ⟨l303,hx304,hF305⟩:=qk hF219
  refine wm (f:=qg) hv121 (i5 hS301) hW (fun _=>rfl) (fun _=>rfl) (SlF.first hv300 hS301 (fun _=>rfl)) hx304 (fun v306 c307 h308 hv309 hS310=>?_)
  simp only [f290,qt,qb,d8,d9,e8,zd,zp,B0,reduceIte,a9]
  refine zm (us:=[v306]) (kg (l7 hv309)) (cs':=[.int .i64 zj.View.Epoch,.int .i64 zj.View.Leader,v115,v306,v123,
    .int .i64 zj.Told]) (n9 hS310) hW rfl (qm (l7 hv309) zq) (nle rfl) rfl (fun h312 hS313=>?_)
  simp only [qa,q37,qc,qd,f290,qt,qb,d8,d9,e8,zd,qn,B0,reduceIte,a9]
  refine qh (v:=v123) ((jv (o9 _ _ _ hS313)).trans rfl) ?_
  simp only [f288,qt,qb,d8,d9,e8,qs,qn,B0,reduceIte,a9]
  refine qh (v := .int .i64 v_1.K) rfl ?_
  simp only [f290,qt,qb,d8,d9,e8,zd,qn,B0,reduceIte,a9]
  refine qh (v:=v306) ((jv (o9 _ _ _ hS313)).trans rfl) ?_
  obtain ⟨x314,hx315,hF316⟩:=qk hF305
  simp only [zy,qb,SlF.plen hv309,jl,B0,reduceIte,a9]
  obtain ⟨b317,hb318⟩:=a04 hv125 (j9 hx315)
  refine qh (a16 hv125 hb318 hx315) ?_
  simp only [zp,B0,reduceIte,a9]
  refine qb5 (f:=cI) (x':=(f0 l303:Int)) (o:=0) hv125 (Sep.m9 hS313) hW hb318 hx315 (fun _=>rfl) rfl rfl (nle rfl) rfl (fun c321 h319 hv322 hS320=>?_)
  have hx323:=kj (x':=(f0 l303:Int)) hx315
  simp only [qa,qy8,qd,f287,qt,qb,d8,d9,e8,zd,qn,B0,reduceIte,a9]
  refine qh (v:=pv0_3) ((jv (o9 _ _ _ (n9 hS320))).trans rfl) ?_
  simp only [f288,qt,qb,d8,d9,e8,qs,qn,B0,reduceIte,a9]
  refine qh (v := .int .i64 v_1.K) rfl ?_
  simp only [f290,qn,B0,reduceIte,a9]
  refine qh (v := .agg [.int .i64 zj.View.Epoch,.int .i64 zj.View.Leader,v115,v306,v123,.int .i64 zj.Told]) ((zu (o9 _ _ _ (n7 hS320))).trans rfl) ?_
  simp only [jl,B0,reduceIte,a9]
  refine qh (SlG.ia hv111 hx104) ?_
  simp only [zp,B0,reduceIte,a9]
  refine wb (n:=6) (us:=[.int .i64 zj.View.Epoch,.int .i64 zj.View.Leader,v115,v306,v123,.int .i64 zj.Told]) (cs:=[.int .i64 zj.View.Epoch,
    .int .i64 zj.View.Leader,v115,v119,v123,.int .i64 zj.Told]) (o:=0) (cs':=[.int .i64 zj.View.Epoch,.int .i64 zj.View.Leader,v115,v306,v123,
    .int .i64 zj.Told]) rfl hv111 rfl hx104 (o7 hS320) hW rfl (qm rfl (qm rfl (qm (l7 hv117) (qm (l7 hv309) (qm (l7 hv322)
    (qm rfl zq)))))) (nle rfl) rfl (fun c326 h324 hv327 hS325=>?_)
  simp only [qa,yl,qc,qd,f287,qn,B0,reduceIte,a9]
  refine qh (v := .agg [.int .i64 v_0.Truth.Epoch,.int .i64 v_0.Truth.Leader,pv0_2,pv0_3,pv0_4]) ((zu (o9 _ _ _ (t9 hS325))).trans rfl) ?_
  simp only [f289,zp,B0,reduceIte,a9]
  refine zm (us:=[.int .i64 v_0.Truth.Epoch,.int .i64 v_0.Truth.Leader,pv0_2,pv0_3,pv0_4]) rfl (cs':=[.int .i64 v_0.Truth.Epoch,.int .i64 v_0.Truth.Leader,
    pv0_2,pv0_3,pv0_4]) (s9 hS325) hW rfl (qm rfl (qm rfl (qm (l7 ph0_2) (qm (a3g hv327) (qm (l7 ph0_4) zq))))) (nle rfl) rfl
    (fun h328 hS329=>?_)
  simp only [qf,qa,qx,B0,reduceIte,a9]
  obtain ⟨c330,hv331,hS332⟩:=SlG.cls (e':=(Node.mk zj.View l303 (a0u zj.Known v_1.K.toNat (f0 l303:Int)) zj.Told)) (c:=c326) (os:=c116 ++
    (c307++(c321))) hv327 rfl hx104 z8 (Node.RI (x:=(Node.mk zj.View l303 (a0u zj.Known v_1.K.toNat (f0 l303:Int)) zj.Told)) hv117 hv309 hv322)
    (a0q (c1:=c116) (c2:=c307) (c3:=c321) (n9 (Sep.m9 (n9 (l9 hS329)))))
  have hx333:=kj (x':=(Node.mk zj.View l303 (a0u zj.Known v_1.K.toNat (f0 l303:Int)) zj.Told)) hx104
  have hv334:=a0s hv331
  have he:=qj hF316
  subst he
  refine jy (qi (j7 (bb:=b9) (oo:=0) (v := .agg [.int .i64 v_0.Truth.Epoch,.int .i64 v_0.Truth.Leader,pv0_2,pv0_3,
    pv0_4]) (f289) ((zu (o9 _ _ _ (n7 hS332))).trans rfl)) (qi (ye (v := .bool true) (rfl)) zc)) ?_
  exact ⟨pv0_2,pc0_2,c330,pv0_4,pc0_4,by first | trivial | rfl,ph0_2,hv334,ph0_4,
    (l9 (n7 (l9 (o8 (n7 (o8 (n7 (o8 (n7 (o8 (n7 hS332)))))))))))⟩
 rw [iteF hc296] at hF219
 simp only [qvc,qc,js,f288,jb,ql,d8,d9,e8,qs,zt,B0,reduceIte,a9]
 refine qu (v := .int .i64 v_1.Kind) rfl ?_
 simp only [k5,ql,k6,zr,B0,reduceIte,a9]
 refine we 3 (fun fr' h'=>Sep h' lo ([Blk1 b1 [.int .i64 v_0.Truth.Epoch,.int .i64 v_0.Truth.Leader,pv0_2,pv0_3,pv0_4] 28]++([Blk1 b9 [.int .i64 0,.int .i64 0,.nil,
   .nil,.nil] 28]++([Blk1 b127 [.int .i64 zj.View.Epoch,.int .i64 zj.View.Leader,v115,v119,v123,
   .int .i64 zj.Told] 68]++(pc0_2++(c108++(pc0_4++(c116++(c120++(c124++(S0))))))))))∧fr' 189 = .bool ((decide (v_1.Kind=4)) &&
   (!v137))∧fr' 2 = .ptr b1 0∧fr' 3 = .ref [.int .i64 v_1.Kind,.int .i64 v_1.K,.int .i64 v_1.To,
   .int .i64 v_1.N] 0∧fr' 4 = .ptr b9 0∧fr' 7 = .ptr b127 0∧fr' 8 = .bool v137∧fr' 9 = .bool ((v137&&(decide (zj.View.Epoch=v_0.Truth.Epoch)))&&(decide
   (v_1.To≠v_1.K)))∧fr' 10 = .bool v164) rfl (fun Q335 hN336=>?_) ?_
 ·simp only [f4,i7]
  simp only [qr (g:=186),B0,reduceIte,a9]
  refine jm (t:=(decide (v_1.Kind=4))) (fun hg337=>?_) (fun hg337=>?_)
  ·simp only [hg337,qr (g:=186),zl,f291,zr,ql,qcx,ko,jh,zo,za,qp,B0,reduceIte,a9]
   exact hN336 _ _ ⟨(i5 (i5 (i5 (i5 (i5 (i5 (i5 (i5 (i5 hS295))))))))),by rw [yb hg337]; simp only [B0,reduceIte,a9],f287,
     f288,f289,f290,f291,f292,f293⟩
  ·simp only [hg337,qr (g:=186),ku,jh,ql,zn,za,qp,B0,reduceIte,a9]
   exact hN336 _ _ ⟨(i5 (i5 (i5 (i5 (i5 (i5 (i5 (i5 (i5 hS295))))))))),by rw [yd hg337]; simp only [B0,reduceIte,a9],f287,
     f288,f289,f290,f291,f292,f293⟩
 rintro fr338 h347 ⟨hS348,f339,f340,f341,f342,f343,f344,f345,f346⟩
 simp only [i0,i6]
 simp only [f339,zr,ql,B0,reduceIte,a9]
 refine we 6 (fun fr' h'=>Sep h' lo ([Blk1 b1 [.int .i64 v_0.Truth.Epoch,.int .i64 v_0.Truth.Leader,pv0_2,pv0_3,pv0_4] 28]++([Blk1 b9 [.int .i64 0,.int .i64 0,.nil,
   .nil,.nil] 28]++([Blk1 b127 [.int .i64 zj.View.Epoch,.int .i64 zj.View.Leader,v115,v119,v123,
   .int .i64 zj.Told] 68]++(pc0_2++(c108++(pc0_4++(c116++(c120++(c124++(S0))))))))))∧fr' 196 = .bool (((decide (v_1.Kind=4))&&(!v137))&&(decide
   (v_1.To≠v_1.K)))∧fr' 2 = .ptr b1 0∧fr' 3 = .ref [.int .i64 v_1.Kind,.int .i64 v_1.K,.int .i64 v_1.To,
   .int .i64 v_1.N] 0∧fr' 4 = .ptr b9 0∧fr' 7 = .ptr b127 0∧fr' 8 = .bool v137∧fr' 9 = .bool ((v137&&(decide (zj.View.Epoch=v_0.Truth.Epoch)))&&(decide
   (v_1.To≠v_1.K)))∧fr' 10 = .bool v164) rfl (fun Q349 hN350=>?_) ?_
 ·simp only [f4,i7]
  simp only [qr (g:=190),B0,reduceIte,a9]
  refine jm (t:=((decide (v_1.Kind=4))&&(!v137))) (fun hg351=>?_) (fun hg351=>?_)
  ·simp only [hg351,qr (g:=190),zl,f341,jb,ql,d8,d9,e8,qs,zt,B0,reduceIte,a9]
   refine qu (v := .int .i64 v_1.To) rfl ?_
   simp only [hg351,qr (g:=190),zl,f341,jb,ql,d8,d9,e8,qs,zt,B0,reduceIte,a9]
   refine qu (v := .int .i64 v_1.K) rfl ?_
   simp only [hg351,qr (g:=190),zl,k5,ql,ya,jh,zo,za,qp,B0,reduceIte,a9]
   exact hN350 _ _ ⟨(i5 (i5 (i5 (i5 (i5 (i5 (i5 (i5 (i5 hS348))))))))),by rw [yb hg351]; simp only [B0,reduceIte,a9],f340,
     f341,f342,f343,f344,f345,f346⟩
  ·simp only [hg351,qr (g:=190),ku,jh,ql,zn,za,qp,B0,reduceIte,a9]
   exact hN350 _ _ ⟨(i5 (i5 (i5 (i5 (i5 (i5 (i5 (i5 (i5 hS348))))))))),by rw [yd hg351]; simp only [B0,reduceIte,a9],f340,
     f341,f342,f343,f344,f345,f346⟩
 rintro fr352 h361 ⟨hS362,f353,f354,f355,f356,f357,f358,f359,f360⟩
 simp only [i0,i6]
 simp only [f353,zr,ql,B0,reduceIte,a9]
 simp only [qr (g:=197),B0,reduceIte,a9]
 refine jm (t:=(((decide (v_1.Kind=4))&&(!v137))&&(decide (v_1.To≠v_1.K)))) (fun hg363=>?_) (fun hg363=>?_)
 ·rw [iteT hg363] at hF219
  simp only [hg363,qr (g:=197),zl,f354,zt,B0,reduceIte,a9]
  refine qu (v := .agg [.int .i64 v_0.Truth.Epoch,.int .i64 v_0.Truth.Leader,pv0_2,pv0_3,pv0_4]) ((zu (o9 _ _ _ hS362)).trans rfl) ?_
  simp only [hg363,qr (g:=197),zl,f355,jb,ql,d8,d9,e8,qs,zt,B0,reduceIte,a9]
  refine qu (v := .int .i64 v_1.To) rfl ?_
  obtain ⟨c364,hv365,hS366⟩:=a0z (c:=c108) (os:=c116++(c120++(c124))) hv111 rfl hx104 z8 (Node.RI (x:=zj) hv117 hv121 hv125) (a0q (c1:=c116)
    (c2:=c120) (c3:=c124) (o7 (i5 (i5 (i5 hS362)))))
  have hv367:=a0s hv365
  obtain ⟨v368,hx369,hF370⟩:=qk hF219
  simp only [hg363,qr (g:=197),zl,ki,B0,reduceIte,a9]
  refine uy rfl (qi (zv (qi qo (qi qo (qi (a0c ph0_2 (n9 hS366) rfl (fun _=>rfl) (fun _=>rfl)) (qi
    (SlN.snap hv367 _ hS366 rfl Node.RO) (qi (a0c ph0_4 (t9 hS366) rfl (fun _=>rfl) (fun _=>rfl)) zc)))))) (qi qo zc)) (qeg
    (fun b hb=>decide_eq_true hb) v_0 v_1.To v368 hx369) ?_
  simp only [hg363,jh,ql,zo,zr,B0,reduceIte,a9]
  obtain ⟨v374,hx375,hF376⟩:=qk hF370
  refine we 13 (fun fr' h'=>Sep h' lo ([Blk1 b1 [.int .i64 v_0.Truth.Epoch,.int .i64 v_0.Truth.Leader,pv0_2,pv0_3,pv0_4] 28]++([Blk1 b9 [.int .i64 0,.int .i64 0,
    .nil,.nil,.nil] 28]++([Blk1 b127 [.int .i64 zj.View.Epoch,.int .i64 zj.View.Leader,v115,v119,v123,
    .int .i64 zj.Told] 68]++(pc0_2++(c108++(pc0_4++(c116++(c120++(c124 ++
    (S0))))))))))∧fr' 216 = .bool v374∧fr' 2 = .ptr b1 0∧fr' 3 = .ref [.int .i64 v_1.Kind,.int .i64 v_1.K,.int .i64 v_1.To,
    .int .i64 v_1.N] 0∧fr' 4 = .ptr b9 0∧fr' 7 = .ptr b127 0∧fr' 8 = .bool v137∧fr' 9 = .bool ((v137&&(decide (zj.View.Epoch=v_0.Truth.Epoch)))&&(decide
    (v_1.To≠v_1.K)))∧fr' 10 = .bool v164) rfl (fun Q371 hN372=>?_) ?_
  ·simp only [f4,i7]
   simp only [qr (g:=203),B0,reduceIte,a9]
   refine jm (t:=v368) (fun hg373=>?_) (fun hg373=>?_)
   ·rw [iteT hg373] at hx375
    simp only [hg373,qr (g:=203),zl,f354,jb,ql,d8,d9,e8,zd,zt,B0,reduceIte,a9]
    refine qu (v:=pv0_3) ((jv (o9 _ _ _ hS362)).trans rfl) ?_
    simp only [hg373,qr (g:=203),zl,f355,jb,ql,d8,d9,e8,qs,zt,B0,reduceIte,a9]
    refine qu (v := .int .i64 v_1.To) rfl ?_
    obtain ⟨x377,hx378,hF379⟩:=qk hx375
    simp only [hg373,qr (g:=203),zl,yz,B0,reduceIte,a9]
    refine qu (SlG.ia hv111 hx378) ?_
    obtain ⟨hp380,hF381⟩:=qmt hF379
    have hn382:=qr6 hp380 hx104 hx378
    obtain ⟨c383,cs384,os385,hv386,hR387,hS388⟩:=SlG.opn hv111 hx378 ((qge hn382).trans z8) Node.RO.len (n9 hS362)
    obtain ⟨v390,c391,v394,c395,v398,c399,hv392,hv396,hv400,rfl,rfl⟩:=hR387
    have hS389:=Sep.no3 hS388
    simp only [hg373,qr (g:=203),zl,jb,ql,d8,d9,e8,zd,zt,B0,reduceIte,a9]
    refine qu (v := .int .i64 x377.View.Epoch) ((SlG.ld (o:=0) hv386 rfl hx378 hS389 (nle rfl)).trans rfl) ?_
    simp only [hg373,qr (g:=203),zl,f357,jb,ql,d8,d9,e8,zd,zt,B0,reduceIte,a9]
    refine qu (v := .int .i64 zj.View.Epoch) ((jv (o9 _ _ _ (s9 hS389))).trans rfl) ?_
    simp only [hg373,qr (g:=203),zl,k5,ql,k6,jh,zo,za,qp,B0,reduceIte,a9]
    have e402:=qj hF381
    exact hN372 _ _ ⟨(i5 (i5 (i5 (i5 (i5 (i5 (i5 (i5 (i5 hS362))))))))),by rw [←e402]; simp only [B0,reduceIte,a9],f354,
      f355,f356,f357,f358,f359,f360⟩
   ·rw [iteF hg373] at hx375
    simp only [hg373,qr (g:=203),ku,jh,ql,zn,za,qp,B0,reduceIte,a9]
    have e403:=qj hx375
    exact hN372 _ _ ⟨(i5 (i5 (i5 (i5 (i5 (i5 (i5 (i5 (i5 hS362))))))))),by rw [←e403]; simp only [B0,reduceIte,a9],f354,
      f355,f356,f357,f358,f359,f360⟩
  rintro fr404 h413 ⟨hS414,f405,f406,f407,f408,f409,f410,f411,f412⟩
  simp only [i0,i6]
  simp only [f405,zr,ql,B0,reduceIte,a9]
  simp only [qr (g:=217),B0,reduceIte,a9]
  refine jm (t:=v374) (fun hg415=>?_) (fun hg415=>?_)
  ·rw [iteT hg415] at hF376
   simp only [hg415,qr (g:=217),zl,f407,jb,ql,d8,d9,e8,qs,zt,B0,reduceIte,a9]
   refine qu (v := .int .i64 v_1.N) rfl ?_
   simp only [hg415,qr (g:=217),zl,ki,B0,reduceIte,a9]
   refine uy rfl (qi qo (qi qo (qi qo zc))) (qbi (fun b hb=>decide_eq_true hb) v_1.N 0 30 _ rfl) ?_
   simp only [hg415,jh,ql,zo,zr,za,qma,q9,B0,reduceIte,a9]
   refine qy (t:=(ju v_1.N 0 30)) (fun hc416=>?_) (fun hc416=>?_)
   ·rw [iteT hc416] at hF376
    simp only [q0f,qc,qd,f406,qn,B0,reduceIte,a9]
    refine qh (v := .agg [.int .i64 v_0.Truth.Epoch,.int .i64 v_0.Truth.Leader,pv0_2,pv0_3,pv0_4]) ((zu (o9 _ _ _ hS414)).trans rfl) ?_
    simp only [f407,qt,qb,d8,d9,e8,qs,qn,B0,reduceIte,a9]
    refine qh (v := .int .i64 v_1.K) rfl ?_
    simp only [f407,qt,qb,d8,d9,e8,qs,qn,B0,reduceIte,a9]
    refine qh (v := .int .i64 v_1.To) rfl ?_
    simp only [f407,qt,qb,d8,d9,e8,qs,qn,B0,reduceIte,a9]
    refine qh (v := .int .i64 v_1.N) rfl ?_
    obtain ⟨c417,hv418,hS419⟩:=a0z (c:=c108) (os:=c116++(c120++(c124))) hv111 rfl hx104 z8 (Node.RI (x:=zj) hv117 hv121 hv125) (a0q (c1:=c116)
      (c2:=c120) (c3:=c124) (o7 (i5 (i5 (i5 hS414)))))
    have hv420:=a0s hv418
    obtain ⟨v421,hx422,hF423⟩:=qk hF376
    simp only [zg,B0,reduceIte,a9]
    refine y9 rfl (qmp hW k v_0 pv0_2 pc0_2 ph0_2 pv0_3 c417 hv420 pv0_4 pc0_4 ph0_4 v_1.K v_1.To v_1.N v421 hx422 (t9 (n7 (t9 hS419)))) ?_
    rintro _ h430 ⟨c424,c426,c428,rfl,hv425,hv427,hv429,hS431⟩
    simp only [f408,zp,B0,reduceIte,a9]
    refine zm (us:=[.int .i64 v421.Truth.Epoch,.int .i64 v421.Truth.Leader,pv0_2,pv0_3,pv0_4]) rfl (cs':=[.int .i64 v421.Truth.Epoch,
      .int .i64 v421.Truth.Leader,pv0_2,pv0_3,
      pv0_4]) (n9 hS431) hW rfl (qm rfl (qm rfl (qm (l7 hv425) (qm (a09 hv427) (qm (l7 hv429) zq))))) (nle rfl) rfl (fun h432 hS433=>?_)
    simp only [qf,qa,qx,B0,reduceIte,a9]
    have he:=qj hF423
    subst he
    refine jy (qi (j7 (bb:=b9) (oo:=0) (v := .agg [.int .i64 v421.Truth.Epoch,.int .i64 v421.Truth.Leader,pv0_2,pv0_3,
      pv0_4]) (f408) ((zu (o9 _ _ _ hS433)).trans rfl)) (qi (ye (v := .bool true) (rfl)) zc)) ?_
    exact ⟨pv0_2,c424,c426,pv0_4,c428,by first | trivial | rfl,hv425,hv427,hv429,(l9 (l9 (l9 (o8 (l6 (o8 (l6 (o8 (hS433)))))))))⟩
   rw [iteF hc416] at hF376
   simp only [qmb,qc,qd,f407,qt,qb,d8,d9,e8,qs,qn,B0,reduceIte,a9]
   refine qh (v := .int .i64 v_1.Kind) rfl ?_
   simp only [qz,qb,k6,qf,B0,reduceIte,a9]
   refine ji 2 (fun fr' h'=>Sep h' lo ([Blk1 b1 [.int .i64 v_0.Truth.Epoch,.int .i64 v_0.Truth.Leader,pv0_2,pv0_3,pv0_4] 28]++([Blk1 b9 [.int .i64 0,.int .i64 0,
     .nil,.nil,.nil] 28]++([Blk1 b127 [.int .i64 zj.View.Epoch,.int .i64 zj.View.Leader,v115,v119,v123,
     .int .i64 zj.Told] 68]++(pc0_2++(c108++(pc0_4++(c116++(c120++(c124++(S0))))))))))∧fr' 236 = .bool ((decide (v_1.Kind=5))&&((v137&&(decide
     (zj.View.Epoch=v_0.Truth.Epoch)))&&(decide (v_1.To≠v_1.K))))∧fr' 2 = .ptr b1 0∧fr' 3 = .ref [.int .i64 v_1.Kind,.int .i64 v_1.K,.int .i64 v_1.To,
     .int .i64 v_1.N] 0∧fr' 4 = .ptr b9 0∧fr' 7 = .ptr b127 0∧fr' 8 = .bool v137∧fr' 9 = .bool ((v137&&(decide (zj.View.Epoch=v_0.Truth.Epoch)))&&(decide
     (v_1.To≠v_1.K)))∧fr' 10 = .bool v164) (fun Q434 hN435=>?_) ?_
   ·simp only [f4,i7]
    simp only [qe (g:=234),B0,reduceIte,a9]
    refine ze (t:=(decide (v_1.Kind=5))) (fun hg436=>?_) (fun hg436=>?_)
    ·simp only [hg436,qe (g:=234),zi,f411,qf,qw,qb,zo,qa,qp,B0,reduceIte,a9]
     exact hN435 _ _ ⟨(i5 (i5 (i5 (i5 (i5 (i5 (i5 (i5 (i5 hS414))))))))),by rw [yb hg436]; simp only [B0,reduceIte,a9],
       f406,f407,f408,f409,f410,f411,f412⟩
    ·simp only [hg436,qe (g:=234),jj,qw,qb,zn,qa,qp,B0,reduceIte,a9]
     exact hN435 _ _ ⟨(i5 (i5 (i5 (i5 (i5 (i5 (i5 (i5 (i5 hS414))))))))),by rw [yd hg436]; simp only [B0,reduceIte,a9],
       f406,f407,f408,f409,f410,f411,f412⟩
   rintro fr437 h446 ⟨hS447,f438,f439,f440,f441,f442,f443,f444,f445⟩
   simp only [i0,i6]
   simp only [f438,qf,B0,reduceIte,a9]
   refine ji 2 (fun fr' h'=>Sep h' lo ([Blk1 b1 [.int .i64 v_0.Truth.Epoch,.int .i64 v_0.Truth.Leader,pv0_2,pv0_3,pv0_4] 28]++([Blk1 b9 [.int .i64 0,.int .i64 0,
     .nil,.nil,.nil] 28]++([Blk1 b127 [.int .i64 zj.View.Epoch,.int .i64 zj.View.Leader,v115,v119,v123,
     .int .i64 zj.Told] 68]++(pc0_2++(c108++(pc0_4++(c116++(c120++(c124++(S0))))))))))∧fr' 239 = .bool (((decide (v_1.Kind=5))&&((v137&&(decide
     (zj.View.Epoch=v_0.Truth.Epoch)))&&(decide (v_1.To≠v_1.K))))&&v164)∧fr' 2 = .ptr b1 0∧fr' 3 = .ref [.int .i64 v_1.Kind,.int .i64 v_1.K,.int .i64 v_1.To,
     .int .i64 v_1.N] 0∧fr' 4 = .ptr b9 0∧fr' 7 = .ptr b127 0∧fr' 8 = .bool v137∧fr' 9 = .bool ((v137&&(decide (zj.View.Epoch=v_0.Truth.Epoch)))&&(decide
     (v_1.To≠v_1.K)))∧fr' 10 = .bool v164) (fun Q448 hN449=>?_) ?_
   ·simp only [f4,i7]
    simp only [qe (g:=237),B0,reduceIte,a9]
    refine ze (t:=((decide (v_1.Kind=5))&&((v137&&(decide (zj.View.Epoch=v_0.Truth.Epoch)))&&(decide (v_1.To≠v_1.K))))) (fun hg450=>?_)
      (fun hg450=>?_)
    ·simp only [hg450,qe (g:=237),zi,f445,qf,qw,qb,zo,qa,qp,B0,reduceIte,a9]
     exact hN449 _ _ ⟨(i5 (i5 (i5 (i5 (i5 (i5 (i5 (i5 (i5 hS447))))))))),by rw [yb hg450]; simp only [B0,reduceIte,a9],
       f439,f440,f441,f442,f443,f444,f445⟩
    ·simp only [hg450,qe (g:=237),jj,qw,qb,zn,qa,qp,B0,reduceIte,a9]
     exact hN449 _ _ ⟨(i5 (i5 (i5 (i5 (i5 (i5 (i5 (i5 (i5 hS447))))))))),by rw [yd hg450]; simp only [B0,reduceIte,a9],
       f439,f440,f441,f442,f443,f444,f445⟩
   rintro fr451 h460 ⟨hS461,f452,f453,f454,f455,f456,f457,f458,f459⟩
   simp only [i0,i6]
   simp only [f452,qf,qa,ql4,q9,B0,reduceIte,a9]
   refine qy (t:=(((decide (v_1.Kind=5))&&((v137&&(decide (zj.View.Epoch=v_0.Truth.Epoch)))&&(decide (v_1.To≠v_1.K))))&&v164)) (fun hc462=>?_)
     (fun hc462=>?_)
   ·rw [iteT hc462] at hF376
    simp only [qoj,qc,qd,f453,qn,B0,reduceIte,a9]
    refine qh (v := .agg [.int .i64 v_0.Truth.Epoch,.int .i64 v_0.Truth.Leader,pv0_2,pv0_3,pv0_4]) ((zu (o9 _ _ _ hS461)).trans rfl) ?_
    simp only [f454,qt,qb,d8,d9,e8,qs,qn,B0,reduceIte,a9]
    refine qh (v := .int .i64 v_1.K) rfl ?_
    simp only [f454,qt,qb,d8,d9,e8,qs,qn,B0,reduceIte,a9]
    refine qh (v := .int .i64 v_1.To) rfl ?_
    obtain ⟨c463,hv464,hS465⟩:=a0z (c:=c108) (os:=c116++(c120++(c124))) hv111 rfl hx104 z8 (Node.RI (x:=zj) hv117 hv121 hv125) (a0q (c1:=c116)
      (c2:=c120) (c3:=c124) (o7 (i5 (i5 (i5 hS461)))))
    have hv466:=a0s hv464
    obtain ⟨v467,hx468,hF469⟩:=qk hF376
    simp only [zg,B0,reduceIte,a9]
    refine y9 rfl (xq hW k v_0 pv0_2 pc0_2 ph0_2 pv0_3 c463 hv466 pv0_4 pc0_4 ph0_4 v_1.K v_1.To false v467 hx468 (t9 (n7 (t9 hS465)))) ?_
    rintro _ h478 ⟨v470,c471,c474,c476,rfl,hv472,hv475,hv477,hS479⟩
    simp only [f455,zp,B0,reduceIte,a9]
    refine zm (us:=[.int .i64 v467.Truth.Epoch,.int .i64 v467.Truth.Leader,v470,pv0_3,pv0_4]) rfl (cs':=[.int .i64 v467.Truth.Epoch,
      .int .i64 v467.Truth.Leader,v470,pv0_3,
      pv0_4]) (n9 hS479) hW rfl (qm rfl (qm rfl (qm (l7 hv472) (qm (a09 hv475) (qm (l7 hv477) zq))))) (nle rfl) rfl (fun h480 hS481=>?_)
    simp only [qf,qa,qx,B0,reduceIte,a9]
    have he:=qj hF469
    subst he
    refine jy (qi (j7 (bb:=b9) (oo:=0) (v := .agg [.int .i64 v467.Truth.Epoch,.int .i64 v467.Truth.Leader,v470,pv0_3,
      pv0_4]) (f455) ((zu (o9 _ _ _ hS481)).trans rfl)) (qi (ye (v := .bool true) (rfl)) zc)) ?_
    exact ⟨v470,c471,c474,pv0_4,c476,by first | trivial | rfl,hv472,hv475,hv477,(l9 (l9 (l9 (o8 (l6 (o8 (l6 (o8 (hS481)))))))))⟩
   rw [iteF hc462] at hF376
   simp only [ql6,qc,js,f454,jb,ql,d8,d9,e8,qs,zt,B0,reduceIte,a9]
   refine qu (v := .int .i64 v_1.Kind) rfl ?_
   simp only [k5,ql,k6,zr,B0,reduceIte,a9]
   refine we 2 (fun fr' h'=>Sep h' lo ([Blk1 b1 [.int .i64 v_0.Truth.Epoch,.int .i64 v_0.Truth.Leader,pv0_2,pv0_3,pv0_4] 28]++([Blk1 b9 [.int .i64 0,.int .i64 0,
     .nil,.nil,.nil] 28]++([Blk1 b127 [.int .i64 zj.View.Epoch,.int .i64 zj.View.Leader,v115,v119,v123,
     .int .i64 zj.Told] 68]++(pc0_2++(c108++(pc0_4++(c116++(c120++(c124++(S0))))))))))∧fr' 252 = .bool ((decide (v_1.Kind=6))&&((v137&&(decide
     (zj.View.Epoch=v_0.Truth.Epoch)))&&(decide (v_1.To≠v_1.K))))∧fr' 2 = .ptr b1 0∧fr' 3 = .ref [.int .i64 v_1.Kind,.int .i64 v_1.K,.int .i64 v_1.To,
     .int .i64 v_1.N] 0∧fr' 4 = .ptr b9 0∧fr' 7 = .ptr b127 0∧fr' 8 = .bool v137∧fr' 10 = .bool v164) rfl (fun Q482 hN483=>?_) ?_
   ·simp only [f4,i7]
    simp only [qr (g:=250),B0,reduceIte,a9]
    refine jm (t:=(decide (v_1.Kind=6))) (fun hg484=>?_) (fun hg484=>?_)
    ·simp only [hg484,qr (g:=250),zl,f458,zr,ql,jh,zo,za,qp,B0,reduceIte,a9]
     exact hN483 _ _ ⟨(i5 (i5 (i5 (i5 (i5 (i5 (i5 (i5 (i5 hS461))))))))),by rw [yb hg484]; simp only [B0,reduceIte,a9],
       f453,f454,f455,f456,f457,f459⟩
    ·simp only [hg484,qr (g:=250),ku,jh,ql,zn,za,qp,B0,reduceIte,a9]
     exact hN483 _ _ ⟨(i5 (i5 (i5 (i5 (i5 (i5 (i5 (i5 (i5 hS461))))))))),by rw [yd hg484]; simp only [B0,reduceIte,a9],
       f453,f454,f455,f456,f457,f459⟩
   rintro fr485 h493 ⟨hS494,f486,f487,f488,f489,f490,f491,f492⟩
   simp only [i0,i6]
   simp only [f486,zr,ql,B0,reduceIte,a9]
   refine we 3 (fun fr' h'=>Sep h' lo ([Blk1 b1 [.int .i64 v_0.Truth.Epoch,.int .i64 v_0.Truth.Leader,pv0_2,pv0_3,pv0_4] 28]++([Blk1 b9 [.int .i64 0,.int .i64 0,
     .nil,.nil,.nil] 28]++([Blk1 b127 [.int .i64 zj.View.Epoch,.int .i64 zj.View.Leader,v115,v119,v123,
     .int .i64 zj.Told] 68]++(pc0_2++(c108++(pc0_4++(c116++(c120++(c124++(S0))))))))))∧fr' 256 = .bool (((decide (v_1.Kind=6))&&((v137&&(decide
     (zj.View.Epoch=v_0.Truth.Epoch)))&&(decide (v_1.To≠v_1.K))))&&(!v164))∧fr' 2 = .ptr b1 0∧fr' 3 = .ref [.int .i64 v_1.Kind,.int .i64 v_1.K,
     .int .i64 v_1.To,.int .i64 v_1.N] 0∧fr' 4 = .ptr b9 0∧fr' 7 = .ptr b127 0∧fr' 8 = .bool v137) rfl (fun Q495 hN496=>?_) ?_
   ·simp only [f4,i7]
    simp only [qr (g:=253),B0,reduceIte,a9]
    refine jm (t:=((decide (v_1.Kind=6))&&((v137&&(decide (zj.View.Epoch=v_0.Truth.Epoch)))&&(decide (v_1.To≠v_1.K))))) (fun hg497=>?_)
      (fun hg497=>?_)
    ·simp only [hg497,qr (g:=253),zl,f492,zr,ql,qcx,ko,jh,zo,za,qp,B0,reduceIte,a9]
     exact hN496 _ _ ⟨(i5 (i5 (i5 (i5 (i5 (i5 (i5 (i5 (i5 hS494))))))))),by rw [yb hg497]; simp only [B0,reduceIte,a9],
       f487,f488,f489,f490,f491⟩
    ·simp only [hg497,qr (g:=253),ku,jh,ql,zn,za,qp,B0,reduceIte,a9]
     exact hN496 _ _ ⟨(i5 (i5 (i5 (i5 (i5 (i5 (i5 (i5 (i5 hS494))))))))),by rw [yd hg497]; simp only [B0,reduceIte,a9],
       f487,f488,f489,f490,f491⟩
   rintro fr498 h505 ⟨hS506,f499,f500,f501,f502,f503,f504⟩
   simp only [i0,i6]
   simp only [f499,zr,ql,B0,reduceIte,a9]
   obtain ⟨v510,hx511,hF512⟩:=qk hF376
   refine we 10 (fun fr' h'=>Sep h' lo ([Blk1 b1 [.int .i64 v_0.Truth.Epoch,.int .i64 v_0.Truth.Leader,pv0_2,pv0_3,pv0_4] 28]++([Blk1 b9 [.int .i64 0,.int .i64 0,
     .nil,.nil,.nil] 28]++([Blk1 b127 [.int .i64 zj.View.Epoch,.int .i64 zj.View.Leader,v115,v119,v123,
     .int .i64 zj.Told] 68]++(pc0_2++(c108++(pc0_4++(c116++(c120++(c124 ++
     (S0))))))))))∧fr' 267 = .bool v510∧fr' 2 = .ptr b1 0∧fr' 3 = .ref [.int .i64 v_1.Kind,.int .i64 v_1.K,.int .i64 v_1.To,
     .int .i64 v_1.N] 0∧fr' 4 = .ptr b9 0∧fr' 7 = .ptr b127 0∧fr' 8 = .bool v137) rfl (fun Q507 hN508=>?_) ?_
   ·simp only [f4,i7]
    simp only [qr (g:=257),B0,reduceIte,a9]
    refine jm (t:=(((decide (v_1.Kind=6))&&((v137&&(decide (zj.View.Epoch=v_0.Truth.Epoch)))&&(decide (v_1.To≠v_1.K))))&&(!v164)))
      (fun hg509=>?_) (fun hg509=>?_)
    ·rw [iteT hg509] at hx511
     simp only [hg509,qr (g:=257),zl,f503,jb,ql,d8,d9,e8,zd,zt,B0,reduceIte,a9]
     refine qu (v:=v123) ((jv (o9 _ _ _ (l9 hS506))).trans rfl) ?_
     simp only [hg509,qr (g:=257),zl,f501,jb,ql,d8,d9,e8,qs,zt,B0,reduceIte,a9]
     refine qu (v := .int .i64 v_1.To) rfl ?_
     obtain ⟨x513,hx514,hF515⟩:=qk hx511
     simp only [hg509,qr (g:=257),zl,yz,B0,reduceIte,a9]
     obtain ⟨b516,hb517⟩:=a04 hv125 (j9 hx514)
     refine qu (a16 hv125 hb517 hx514) ?_
     simp only [hg509,qr (g:=257),zl,zt,B0,reduceIte,a9]
     refine qu (v := .int .i64 x513) ((SlF.ld (o:=0) hv125 (i5 hS506) hb517 hx514 (fun _=>rfl) (nle rfl)).trans rfl) ?_
     simp only [hg509,qr (g:=257),zl,f503,jb,ql,d8,d9,e8,zd,zt,B0,reduceIte,a9]
     refine qu (v := .int .i64 zj.Told) ((jv (o9 _ _ _ (l9 hS506))).trans rfl) ?_
     simp only [hg509,qr (g:=257),zl,k5,ql,qd9,jh,zo,za,qp,B0,reduceIte,a9]
     have e518:=qj hF515
     exact hN508 _ _ ⟨(i5 (i5 (i5 (i5 (i5 (i5 (i5 (i5 (i5 hS506))))))))),by rw [←e518]; simp only [B0,reduceIte,a9],f500,
       f501,f502,f503,f504⟩
    ·rw [iteF hg509] at hx511
     simp only [hg509,qr (g:=257),ku,jh,ql,zn,za,qp,B0,reduceIte,a9]
     have e519:=qj hx511
     exact hN508 _ _ ⟨(i5 (i5 (i5 (i5 (i5 (i5 (i5 (i5 (i5 hS506))))))))),by rw [←e519]; simp only [B0,reduceIte,a9],f500,
       f501,f502,f503,f504⟩
   rintro fr520 h527 ⟨hS528,f521,f522,f523,f524,f525,f526⟩
   simp only [i0,i6]
   simp only [f521,zr,ql,B0,reduceIte,a9]
   simp only [qr (g:=268),B0,reduceIte,a9]
   refine jm (t:=v510) (fun hg529=>?_) (fun hg529=>?_)
   ·rw [iteT hg529] at hF512
    simp only [hg529,qr (g:=268),zl,f525,qb2,ql,d8,d9,e8,zd,w9,B0,reduceIte,a9]
    refine qeh (Sep.ltk (l9 hS461)) ?_
    refine qu (v:=v123) ((jv (o9 _ _ _ (l9 hS528))).trans rfl) ?_
    simp only [hg529,qr (g:=268),zl,f523,qb2,ql,d8,d9,e8,qs,w9,xy,B0,reduceIte,
      a9]
    refine qu (v := .int .i64 v_1.To) rfl ?_
    obtain ⟨x530,hx531,hF532⟩:=qk hF512
    simp only [hg529,qr (g:=268),zl,qrw,B0,reduceIte,a9]
    obtain ⟨b533,hb534⟩:=a04 hv125 (j9 hx531)
    refine qu (a16 hv125 hb534 hx531) ?_
    simp only [hg529,qr (g:=268),zl,w9,B0,reduceIte,a9]
    refine qeh (SlF.ltk hv125 hb534 (i5 hS461)) ?_
    refine qu (v := .int .i64 x530) ((SlF.ld (o:=0) hv125 (i5 hS528) hb534 hx531 (fun _=>rfl) (nle rfl)).trans rfl) ?_
    simp only [hg529,qr (g:=268),zl,f525,zt,B0,reduceIte,a9]
    refine qu (v := .agg [.int .i64 zj.View.Epoch,.int .i64 zj.View.Leader,v115,v119,v123,
      .int .i64 zj.Told]) ((zu (o9 _ _ _ (l9 hS528))).trans rfl) ?_
    obtain ⟨v535,hx536,hF537⟩:=qk hF532
    simp only [hg529,qr (g:=268),zl,wg,B0,reduceIte,a9]
    refine qkf rfl (qi (zv (qi qo (qi qo (qi (a0c hv117 (s9 hS528) rfl (fun _=>rfl) (fun _=>rfl)) (qi (a0c hv121
      (o7 hS528) rfl (fun _=>rfl) (fun _=>rfl)) (qi (a0c hv125 (i5 hS528) rfl (fun _=>rfl) (fun _=>rfl)) (qi qo zc))))))) zc)
      (qet (fun b hb=>decide_eq_true hb) zj v535 hx536) ?_
    simp only [hg529,qr (g:=268),zl,k5,ql,qd9,jh,zo,zr,za,qgm,q9,B0,reduceIte,a9]
    refine qy (t:=(decide (v535≤x530))) (fun hc538=>?_) (fun hc538=>?_)
    ·rw [iteT hc538] at hF537
     simp only [qmm,qc,qd,f522,qn,B0,reduceIte,a9]
     refine qh (v := .agg [.int .i64 v_0.Truth.Epoch,.int .i64 v_0.Truth.Leader,pv0_2,pv0_3,pv0_4]) ((zu (o9 _ _ _ hS528)).trans rfl) ?_
     simp only [f523,qt,qb,d8,d9,e8,qs,qn,B0,reduceIte,a9]
     refine qh (v := .int .i64 v_1.K) rfl ?_
     simp only [f523,qt,qb,d8,d9,e8,qs,qn,B0,reduceIte,a9]
     refine qh (v := .int .i64 v_1.To) rfl ?_
     obtain ⟨c539,hv540,hS541⟩:=a0z (c:=c108) (os:=c116++(c120++(c124))) hv111 rfl hx104 z8 (Node.RI (x:=zj) hv117 hv121 hv125) (a0q
       (c1:=c116) (c2:=c120) (c3:=c124) (o7 (i5 (i5 (i5 hS528)))))
     have hv542:=a0s hv540
     obtain ⟨v543,hx544,hF545⟩:=qk hF537
     simp only [zg,B0,reduceIte,a9]
     refine y9 rfl (xq hW k v_0 pv0_2 pc0_2 ph0_2 pv0_3 c539 hv542 pv0_4 pc0_4 ph0_4 v_1.K v_1.To true v543 hx544 (t9 (n7 (t9 hS541)))) ?_
     rintro _ h554 ⟨v546,c547,c550,c552,rfl,hv548,hv551,hv553,hS555⟩
     simp only [f524,zp,B0,reduceIte,a9]
     refine zm (us:=[.int .i64 v543.Truth.Epoch,.int .i64 v543.Truth.Leader,v546,pv0_3,pv0_4]) rfl (cs':=[.int .i64 v543.Truth.Epoch,
       .int .i64 v543.Truth.Leader,v546,pv0_3,
       pv0_4]) (n9 hS555) hW rfl (qm rfl (qm rfl (qm (l7 hv548) (qm (a09 hv551) (qm (l7 hv553) zq))))) (nle rfl) rfl
       (fun h556 hS557=>?_)
     simp only [qf,qa,qx,B0,reduceIte,a9]
     have he:=qj hF545
     subst he
     refine jy (qi (j7 (bb:=b9) (oo:=0) (v := .agg [.int .i64 v543.Truth.Epoch,.int .i64 v543.Truth.Leader,v546,pv0_3,
       pv0_4]) (f524) ((zu (o9 _ _ _ hS557)).trans rfl)) (qi (ye (v := .bool true) (rfl)) zc)) ?_
     exact ⟨v546,c547,c550,pv0_4,c552,by first | trivial | rfl,hv548,hv551,hv553,(l9 (l9 (l9 (o8 (l6 (o8 (l6 (o8 (hS557)))))))))⟩
    rw [iteF hc538] at hF537
    simp only [qg0,qc,qd,f523,qt,qb,d8,d9,e8,qs,qn,B0,reduceIte,a9]
    refine qh (v := .int .i64 v_1.Kind) rfl ?_
    simp only [qz,qb,k6,qf,B0,reduceIte,a9]
    refine ji 2 (fun fr' h'=>Sep h' lo ([Blk1 b1 [.int .i64 v_0.Truth.Epoch,.int .i64 v_0.Truth.Leader,pv0_2,pv0_3,pv0_4] 28]++([Blk1 b9 [.int .i64 0,.int .i64 0,
      .nil,.nil,.nil] 28]++(pc0_2++(c108++(pc0_4++(c116++(c120++(c124++(S0)))))))))∧fr' 291 = .bool ((decide
      (v_1.Kind=7))&&v137)∧fr' 2 = .ptr b1 0∧fr' 3 = .ref [.int .i64 v_1.Kind,.int .i64 v_1.K,.int .i64 v_1.To,
      .int .i64 v_1.N] 0∧fr' 4 = .ptr b9 0) (fun Q558 hN559=>?_) ?_
    ·simp only [f4,i7]
     simp only [qe (g:=289),B0,reduceIte,a9]
     refine ze (t:=(decide (v_1.Kind=7))) (fun hg560=>?_) (fun hg560=>?_)
     ·simp only [hg560,qe (g:=289),zi,f526,qf,qw,qb,zo,qa,qp,B0,reduceIte,a9]
      exact hN559 _ _ ⟨(o7 (o7 (o7 (o7 (o7 (o7 (o7 (o7 (o8 (l9 hS528)))))))))),by rw [yb hg560]; simp only [B0,reduceIte,
        a9],f522,f523,f524⟩
     ·simp only [hg560,qe (g:=289),jj,qw,qb,zn,qa,qp,B0,reduceIte,a9]
      exact hN559 _ _ ⟨(o7 (o7 (o7 (o7 (o7 (o7 (o7 (o7 (o8 (l9 hS528)))))))))),by rw [yd hg560]; simp only [B0,reduceIte,
        a9],f522,f523,f524⟩
    rintro fr561 h566 ⟨hS567,f562,f563,f564,f565⟩
    simp only [i0,i6]
    simp only [f562,qf,qa,qg7,q9,B0,reduceIte,a9]
    refine qy (t:=((decide (v_1.Kind=7))&&v137)) (fun hc568=>?_) (fun hc568=>?_)
    ·rw [iteT hc568] at hF537
     simp only [qg8,qc,qd,f563,qn,B0,reduceIte,a9]
     refine qh (v := .agg [.int .i64 v_0.Truth.Epoch,.int .i64 v_0.Truth.Leader,pv0_2,pv0_3,pv0_4]) ((zu (o9 _ _ _ hS567)).trans rfl) ?_
     simp only [f564,qt,qb,d8,d9,e8,qs,qn,B0,reduceIte,a9]
     refine qh (v := .int .i64 v_1.K) rfl ?_
     obtain ⟨c569,hv570,hS571⟩:=a0z (c:=c108) (os:=c116++(c120++(c124))) hv111 rfl hx104 z8 (Node.RI (x:=zj) hv117 hv121 hv125) (a0q
       (c1:=c116) (c2:=c120) (c3:=c124) (s9 (o7 (o7 (o7 hS567)))))
     have hv572:=a0s hv570
     obtain ⟨v573,hx574,hF575⟩:=qk hF537
     simp only [zg,B0,reduceIte,a9]
     refine y9 rfl (qaa hW v_0 pv0_2 pc0_2 ph0_2 pv0_3 c569 hv572 pv0_4 pc0_4 ph0_4 v_1.K v573 hx574 (n9 (n7 (n9 hS571)))) ?_
     rintro _ h584 ⟨c576,c578,v580,c581,rfl,hv577,hv579,hv582,hS585⟩
     simp only [qfd,qb,qcd,qcb,f565,zp,B0,reduceIte,a9]
     refine zm (us:=[.int .i64 v573.1.Truth.Epoch,.int .i64 v573.1.Truth.Leader,pv0_2,pv0_3,v580]) rfl (cs':=[.int .i64 v573.1.Truth.Epoch,
       .int .i64 v573.1.Truth.Leader,pv0_2,pv0_3,
       v580]) (n9 hS585) hW rfl (qm rfl (qm rfl (qm (l7 hv577) (qm (a09 hv579) (qm (l7 hv582) zq))))) (nle rfl) rfl
       (fun h586 hS587=>?_)
     simp only [qf,qa,qx,B0,reduceIte,a9]
     have he:=qj hF575
     subst he
     refine jy (qi (j7 (bb:=b9) (oo:=0) (v := .agg [.int .i64 v573.1.Truth.Epoch,.int .i64 v573.1.Truth.Leader,pv0_2,pv0_3,
       v580]) (f565) ((zu (o9 _ _ _ hS587)).trans rfl)) (qi (ye (v := .bool v573.2) (rfl)) zc)) ?_
     exact ⟨pv0_2,c576,c578,v580,c581,by first | trivial | rfl,hv577,hv579,hv582,(l9 (l9 (l9 (o8 (l6 (o8 (hS587)))))))⟩
    rw [iteF hc568] at hF537
    simp only [qc,qd,f563,qn,B0,reduceIte,a9]
    refine qh (v := .agg [.int .i64 v_0.Truth.Epoch,.int .i64 v_0.Truth.Leader,pv0_2,pv0_3,pv0_4]) ((zu (o9 _ _ _ hS567)).trans rfl) ?_
    simp only [f565,zp,B0,reduceIte,a9]
    refine zm (us:=[.int .i64 v_0.Truth.Epoch,.int .i64 v_0.Truth.Leader,pv0_2,pv0_3,pv0_4]) rfl (cs':=[.int .i64 v_0.Truth.Epoch,.int .i64 v_0.Truth.Leader,
      pv0_2,pv0_3,pv0_4]) (n7 hS567) hW rfl (qm rfl (qm rfl (qm (l7 ph0_2) (qm (a3g hv111) (qm (l7 ph0_4) zq))))) (nle rfl) rfl
      (fun h588 hS589=>?_)
    simp only [qf,qa,qx,B0,reduceIte,a9]
    obtain ⟨c590,hv591,hS592⟩:=a0z (c:=c108) (os:=c116++(c120++(c124))) hv111 rfl hx104 z8 (Node.RI (x:=zj) hv117 hv121 hv125) (a0q (c1:=c116)
      (c2:=c120) (c3:=c124) (s9 (o7 (o7 (o7 hS589)))))
    have hv593:=a0s hv591
    have he:=qj hF537
    subst he
    refine jy (qi (j7 (bb:=b9) (oo:=0) (v := .agg [.int .i64 v_0.Truth.Epoch,.int .i64 v_0.Truth.Leader,pv0_2,pv0_3,
      pv0_4]) (f565) ((zu (o9 _ _ _ (n7 hS592))).trans rfl)) (qi (ye (v := .bool false) (rfl)) zc)) ?_
    exact ⟨pv0_2,pc0_2,c590,pv0_4,pc0_4,by first | trivial | rfl,ph0_2,hv593,ph0_4,(l9 (n7 (l9 (o8 (n7 (o8 (n7 hS592)))))))⟩
   rw [iteF hg529] at hF512
   simp only [hg529,qr (g:=268),ku,jh,ql,zn,zr,za,qgm,q9,qb6,qg0,qc,qd,f523,qt,
     qb,d8,d9,e8,qs,qn,B0,reduceIte,a9]
   refine qh (v := .int .i64 v_1.Kind) rfl ?_
   simp only [qz,qb,k6,qf,B0,reduceIte,a9]
   refine ji 2 (fun fr' h'=>Sep h' lo ([Blk1 b1 [.int .i64 v_0.Truth.Epoch,.int .i64 v_0.Truth.Leader,pv0_2,pv0_3,pv0_4] 28]++([Blk1 b9 [.int .i64 0,.int .i64 0,
     .nil,.nil,.nil] 28]++(pc0_2++(c108++(pc0_4++(c116++(c120++(c124++(S0)))))))))∧fr' 291 = .bool ((decide
     (v_1.Kind=7))&&v137)∧fr' 2 = .ptr b1 0∧fr' 3 = .ref [.int .i64 v_1.Kind,.int .i64 v_1.K,.int .i64 v_1.To,
     .int .i64 v_1.N] 0∧fr' 4 = .ptr b9 0) (fun Q594 hN595=>?_) ?_
   ·simp only [f4,i7]
    simp only [qe (g:=289),B0,reduceIte,a9]
    refine ze (t:=(decide (v_1.Kind=7))) (fun hg596=>?_) (fun hg596=>?_)
    ·simp only [hg596,qe (g:=289),zi,f526,qf,qw,qb,zo,qa,qp,B0,reduceIte,a9]
     exact hN595 _ _ ⟨(o7 (o7 (o7 (o7 (o7 (o7 (o7 (o7 (o8 (l9 hS528)))))))))),by rw [yb hg596]; simp only [B0,reduceIte,
       a9],f522,f523,f524⟩
    ·simp only [hg596,qe (g:=289),jj,qw,qb,zn,qa,qp,B0,reduceIte,a9]
     exact hN595 _ _ ⟨(o7 (o7 (o7 (o7 (o7 (o7 (o7 (o7 (o8 (l9 hS528)))))))))),by rw [yd hg596]; simp only [B0,reduceIte,
       a9],f522,f523,f524⟩
   rintro fr597 h602 ⟨hS603,f598,f599,f600,f601⟩
   simp only [i0,i6]
   simp only [f598,qf,qa,qg7,q9,B0,reduceIte,a9]
   refine qy (t:=((decide (v_1.Kind=7))&&v137)) (fun hc604=>?_) (fun hc604=>?_)
   ·rw [iteT hc604] at hF512
    simp only [qg8,qc,qd,f599,qn,B0,reduceIte,a9]
    refine qh (v := .agg [.int .i64 v_0.Truth.Epoch,.int .i64 v_0.Truth.Leader,pv0_2,pv0_3,pv0_4]) ((zu (o9 _ _ _ hS603)).trans rfl) ?_
    simp only [f600,qt,qb,d8,d9,e8,qs,qn,B0,reduceIte,a9]
    refine qh (v := .int .i64 v_1.K) rfl ?_
    obtain ⟨c605,hv606,hS607⟩:=a0z (c:=c108) (os:=c116++(c120++(c124))) hv111 rfl hx104 z8 (Node.RI (x:=zj) hv117 hv121 hv125) (a0q (c1:=c116)
      (c2:=c120) (c3:=c124) (s9 (o7 (o7 (o7 hS603)))))
    have hv608:=a0s hv606
    obtain ⟨v609,hx610,hF611⟩:=qk hF512
    simp only [zg,B0,reduceIte,a9]
    refine y9 rfl (qaa hW v_0 pv0_2 pc0_2 ph0_2 pv0_3 c605 hv608 pv0_4 pc0_4 ph0_4 v_1.K v609 hx610 (n9 (n7 (n9 hS607)))) ?_
    rintro _ h620 ⟨c612,c614,v616,c617,rfl,hv613,hv615,hv618,hS621⟩
    simp only [qfd,qb,qcd,qcb,f601,zp,B0,reduceIte,a9]
    refine zm (us:=[.int .i64 v609.1.Truth.Epoch,.int .i64 v609.1.Truth.Leader,pv0_2,pv0_3,v616]) rfl (cs':=[.int .i64 v609.1.Truth.Epoch,
      .int .i64 v609.1.Truth.Leader,pv0_2,pv0_3,
      v616]) (n9 hS621) hW rfl (qm rfl (qm rfl (qm (l7 hv613) (qm (a09 hv615) (qm (l7 hv618) zq))))) (nle rfl) rfl (fun h622 hS623=>?_)
    simp only [qf,qa,qx,B0,reduceIte,a9]
    have he:=qj hF611
    subst he
    refine jy (qi (j7 (bb:=b9) (oo:=0) (v := .agg [.int .i64 v609.1.Truth.Epoch,.int .i64 v609.1.Truth.Leader,pv0_2,pv0_3,
      v616]) (f601) ((zu (o9 _ _ _ hS623)).trans rfl)) (qi (ye (v := .bool v609.2) (rfl)) zc)) ?_
    exact ⟨pv0_2,c612,c614,v616,c617,by first | trivial | rfl,hv613,hv615,hv618,(l9 (l9 (l9 (o8 (l6 (o8 (hS623)))))))⟩
   rw [iteF hc604] at hF512
   simp only [qc,qd,f599,qn,B0,reduceIte,a9]
   refine qh (v := .agg [.int .i64 v_0.Truth.Epoch,.int .i64 v_0.Truth.Leader,pv0_2,pv0_3,pv0_4]) ((zu (o9 _ _ _ hS603)).trans rfl) ?_
   simp only [f601,zp,B0,reduceIte,a9]
   refine zm (us:=[.int .i64 v_0.Truth.Epoch,.int .i64 v_0.Truth.Leader,pv0_2,pv0_3,pv0_4]) rfl (cs':=[.int .i64 v_0.Truth.Epoch,.int .i64 v_0.Truth.Leader,
     pv0_2,pv0_3,pv0_4]) (n7 hS603) hW rfl (qm rfl (qm rfl (qm (l7 ph0_2) (qm (a3g hv111) (qm (l7 ph0_4) zq))))) (nle rfl) rfl
     (fun h624 hS625=>?_)
   simp only [qf,qa,qx,B0,reduceIte,a9]
   obtain ⟨c626,hv627,hS628⟩:=a0z (c:=c108) (os:=c116++(c120++(c124))) hv111 rfl hx104 z8 (Node.RI (x:=zj) hv117 hv121 hv125) (a0q (c1:=c116)
     (c2:=c120) (c3:=c124) (s9 (o7 (o7 (o7 hS625)))))
   have hv629:=a0s hv627
   have he:=qj hF512
   subst he
   refine jy (qi (j7 (bb:=b9) (oo:=0) (v := .agg [.int .i64 v_0.Truth.Epoch,.int .i64 v_0.Truth.Leader,pv0_2,pv0_3,
     pv0_4]) (f601) ((zu (o9 _ _ _ (n7 hS628))).trans rfl)) (qi (ye (v := .bool false) (rfl)) zc)) ?_
   exact ⟨pv0_2,pc0_2,c626,pv0_4,pc0_4,by first | trivial | rfl,ph0_2,hv629,ph0_4,(l9 (n7 (l9 (o8 (n7 (o8 (n7 hS628)))))))⟩
  rw [iteF hg415] at hF376
  simp only [hg415,qr (g:=217),ku,jh,ql,zn,zr,za,qma,q9,qb6,qmb,qc,qd,f407,qt,
    qb,d8,d9,e8,qs,qn,B0,reduceIte,a9]
  refine qh (v := .int .i64 v_1.Kind) rfl ?_
  simp only [qz,qb,k6,qf,B0,reduceIte,a9]
  refine ji 2 (fun fr' h'=>Sep h' lo ([Blk1 b1 [.int .i64 v_0.Truth.Epoch,.int .i64 v_0.Truth.Leader,pv0_2,pv0_3,pv0_4] 28]++([Blk1 b9 [.int .i64 0,.int .i64 0,
    .nil,.nil,.nil] 28]++([Blk1 b127 [.int .i64 zj.View.Epoch,.int .i64 zj.View.Leader,v115,v119,v123,
    .int .i64 zj.Told] 68]++(pc0_2++(c108++(pc0_4++(c116++(c120++(c124++(S0))))))))))∧fr' 236 = .bool ((decide (v_1.Kind=5))&&((v137&&(decide
    (zj.View.Epoch=v_0.Truth.Epoch)))&&(decide (v_1.To≠v_1.K))))∧fr' 2 = .ptr b1 0∧fr' 3 = .ref [.int .i64 v_1.Kind,.int .i64 v_1.K,.int .i64 v_1.To,
    .int .i64 v_1.N] 0∧fr' 4 = .ptr b9 0∧fr' 7 = .ptr b127 0∧fr' 8 = .bool v137∧fr' 9 = .bool ((v137&&(decide (zj.View.Epoch=v_0.Truth.Epoch)))&&(decide
    (v_1.To≠v_1.K)))∧fr' 10 = .bool v164) (fun Q630 hN631=>?_) ?_
  ·simp only [f4,i7]
   simp only [qe (g:=234),B0,reduceIte,a9]
   refine ze (t:=(decide (v_1.Kind=5))) (fun hg632=>?_) (fun hg632=>?_)
   ·simp only [hg632,qe (g:=234),zi,f411,qf,qw,qb,zo,qa,qp,B0,reduceIte,a9]
    exact hN631 _ _ ⟨(i5 (i5 (i5 (i5 (i5 (i5 (i5 (i5 (i5 hS414))))))))),by rw [yb hg632]; simp only [B0,reduceIte,a9],f406,
      f407,f408,f409,f410,f411,f412⟩
   ·simp only [hg632,qe (g:=234),jj,qw,qb,zn,qa,qp,B0,reduceIte,a9]
    exact hN631 _ _ ⟨(i5 (i5 (i5 (i5 (i5 (i5 (i5 (i5 (i5 hS414))))))))),by rw [yd hg632]; simp only [B0,reduceIte,a9],f406,
      f407,f408,f409,f410,f411,f412⟩
  rintro fr633 h642 ⟨hS643,f634,f635,f636,f637,f638,f639,f640,f641⟩
  simp only [i0,i6]
  simp only [f634,qf,B0,reduceIte,a9]
  refine ji 2 (fun fr' h'=>Sep h' lo ([Blk1 b1 [.int .i64 v_0.Truth.Epoch,.int .i64 v_0.Truth.Leader,pv0_2,pv0_3,pv0_4] 28]++([Blk1 b9 [.int .i64 0,.int .i64 0,
    .nil,.nil,.nil] 28]++([Blk1 b127 [.int .i64 zj.View.Epoch,.int .i64 zj.View.Leader,v115,v119,v123,
    .int .i64 zj.Told] 68]++(pc0_2++(c108++(pc0_4++(c116++(c120++(c124++(S0))))))))))∧fr' 239 = .bool (((decide (v_1.Kind=5))&&((v137&&(decide
    (zj.View.Epoch=v_0.Truth.Epoch)))&&(decide (v_1.To≠v_1.K))))&&v164)∧fr' 2 = .ptr b1 0∧fr' 3 = .ref [.int .i64 v_1.Kind,.int .i64 v_1.K,.int .i64 v_1.To,
    .int .i64 v_1.N] 0∧fr' 4 = .ptr b9 0∧fr' 7 = .ptr b127 0∧fr' 8 = .bool v137∧fr' 9 = .bool ((v137&&(decide (zj.View.Epoch=v_0.Truth.Epoch)))&&(decide
    (v_1.To≠v_1.K)))∧fr' 10 = .bool v164) (fun Q644 hN645=>?_) ?_
  ·simp only [f4,i7]
   simp only [qe (g:=237),B0,reduceIte,a9]
   refine ze (t:=((decide (v_1.Kind=5))&&((v137&&(decide (zj.View.Epoch=v_0.Truth.Epoch)))&&(decide (v_1.To≠v_1.K))))) (fun hg646=>?_)
     (fun hg646=>?_)
   ·simp only [hg646,qe (g:=237),zi,f641,qf,qw,qb,zo,qa,qp,B0,reduceIte,a9]
    exact hN645 _ _ ⟨(i5 (i5 (i5 (i5 (i5 (i5 (i5 (i5 (i5 hS643))))))))),by rw [yb hg646]; simp only [B0,reduceIte,a9],f635,
      f636,f637,f638,f639,f640,f641⟩
   ·simp only [hg646,qe (g:=237),jj,qw,qb,zn,qa,qp,B0,reduceIte,a9]
    exact hN645 _ _ ⟨(i5 (i5 (i5 (i5 (i5 (i5 (i5 (i5 (i5 hS643))))))))),by rw [yd hg646]; simp only [B0,reduceIte,a9],f635,
      f636,f637,f638,f639,f640,f641⟩
  rintro fr647 h656 ⟨hS657,f648,f649,f650,f651,f652,f653,f654,f655⟩
  simp only [i0,i6]
  simp only [f648,qf,qa,ql4,q9,B0,reduceIte,a9]
  refine qy (t:=(((decide (v_1.Kind=5))&&((v137&&(decide (zj.View.Epoch=v_0.Truth.Epoch)))&&(decide (v_1.To≠v_1.K))))&&v164)) (fun hc658=>?_)
    (fun hc658=>?_)
  ·rw [iteT hc658] at hF376
   simp only [qoj,qc,qd,f649,qn,B0,reduceIte,a9]
   refine qh (v := .agg [.int .i64 v_0.Truth.Epoch,.int .i64 v_0.Truth.Leader,pv0_2,pv0_3,pv0_4]) ((zu (o9 _ _ _ hS657)).trans rfl) ?_
   simp only [f650,qt,qb,d8,d9,e8,qs,qn,B0,reduceIte,a9]
   refine qh (v := .int .i64 v_1.K) rfl ?_
   simp only [f650,qt,qb,d8,d9,e8,qs,qn,B0,reduceIte,a9]
   refine qh (v := .int .i64 v_1.To) rfl ?_
   obtain ⟨c659,hv660,hS661⟩:=a0z (c:=c108) (os:=c116++(c120++(c124))) hv111 rfl hx104 z8 (Node.RI (x:=zj) hv117 hv121 hv125) (a0q (c1:=c116)
     (c2:=c120) (c3:=c124) (o7 (i5 (i5 (i5 hS657)))))
   have hv662:=a0s hv660
   obtain ⟨v663,hx664,hF665⟩:=qk hF376
   simp only [zg,B0,reduceIte,a9]
   refine y9 rfl (xq hW k v_0 pv0_2 pc0_2 ph0_2 pv0_3 c659 hv662 pv0_4 pc0_4 ph0_4 v_1.K v_1.To false v663 hx664 (t9 (n7 (t9 hS661)))) ?_
   rintro _ h674 ⟨v666,c667,c670,c672,rfl,hv668,hv671,hv673,hS675⟩
   simp only [f651,zp,B0,reduceIte,a9]
   refine zm (us:=[.int .i64 v663.Truth.Epoch,.int .i64 v663.Truth.Leader,v666,pv0_3,pv0_4]) rfl (cs':=[.int .i64 v663.Truth.Epoch,.int .i64 v663.Truth.Leader,
     v666,pv0_3,pv0_4]) (n9 hS675) hW rfl (qm rfl (qm rfl (qm (l7 hv668) (qm (a09 hv671) (qm (l7 hv673) zq))))) (nle rfl) rfl
     (fun h676 hS677=>?_)
   simp only [qf,qa,qx,B0,reduceIte,a9]
   have he:=qj hF665
   subst he
   refine jy (qi (j7 (bb:=b9) (oo:=0) (v := .agg [.int .i64 v663.Truth.Epoch,.int .i64 v663.Truth.Leader,v666,pv0_3,
     pv0_4]) (f651) ((zu (o9 _ _ _ hS677)).trans rfl)) (qi (ye (v := .bool true) (rfl)) zc)) ?_
   exact ⟨v666,c667,c670,pv0_4,c672,by first | trivial | rfl,hv668,hv671,hv673,(l9 (l9 (l9 (o8 (l6 (o8 (l6 (o8 (hS677)))))))))⟩
  rw [iteF hc658] at hF376
  simp only [ql6,qc,js,f650,jb,ql,d8,d9,e8,qs,zt,B0,reduceIte,a9]
  refine qu (v := .int .i64 v_1.Kind) rfl ?_
  simp only [k5,ql,k6,zr,B0,reduceIte,a9]
  refine we 2 (fun fr' h'=>Sep h' lo ([Blk1 b1 [.int .i64 v_0.Truth.Epoch,.int .i64 v_0.Truth.Leader,pv0_2,pv0_3,pv0_4] 28]++([Blk1 b9 [.int .i64 0,.int .i64 0,
    .nil,.nil,.nil] 28]++([Blk1 b127 [.int .i64 zj.View.Epoch,.int .i64 zj.View.Leader,v115,v119,v123,
    .int .i64 zj.Told] 68]++(pc0_2++(c108++(pc0_4++(c116++(c120++(c124++(S0))))))))))∧fr' 252 = .bool ((decide (v_1.Kind=6))&&((v137&&(decide
    (zj.View.Epoch=v_0.Truth.Epoch)))&&(decide (v_1.To≠v_1.K))))∧fr' 2 = .ptr b1 0∧fr' 3 = .ref [.int .i64 v_1.Kind,.int .i64 v_1.K,.int .i64 v_1.To,
    .int .i64 v_1.N] 0∧fr' 4 = .ptr b9 0∧fr' 7 = .ptr b127 0∧fr' 8 = .bool v137∧fr' 10 = .bool v164) rfl (fun Q678 hN679=>?_) ?_
  ·simp only [f4,i7]
   simp only [qr (g:=250),B0,reduceIte,a9]
   refine jm (t:=(decide (v_1.Kind=6))) (fun hg680=>?_) (fun hg680=>?_)
   ·simp only [hg680,qr (g:=250),zl,f654,zr,ql,jh,zo,za,qp,B0,reduceIte,a9]
    exact hN679 _ _ ⟨(i5 (i5 (i5 (i5 (i5 (i5 (i5 (i5 (i5 hS657))))))))),by rw [yb hg680]; simp only [B0,reduceIte,a9],f649,
      f650,f651,f652,f653,f655⟩
   ·simp only [hg680,qr (g:=250),ku,jh,ql,zn,za,qp,B0,reduceIte,a9]
    exact hN679 _ _ ⟨(i5 (i5 (i5 (i5 (i5 (i5 (i5 (i5 (i5 hS657))))))))),by rw [yd hg680]; simp only [B0,reduceIte,a9],f649,
      f650,f651,f652,f653,f655⟩
  rintro fr681 h689 ⟨hS690,f682,f683,f684,f685,f686,f687,f688⟩
  simp only [i0,i6]
  simp only [f682,zr,ql,B0,reduceIte,a9]
  refine we 3 (fun fr' h'=>Sep h' lo ([Blk1 b1 [.int .i64 v_0.Truth.Epoch,.int .i64 v_0.Truth.Leader,pv0_2,pv0_3,pv0_4] 28]++([Blk1 b9 [.int .i64 0,.int .i64 0,
    .nil,.nil,.nil] 28]++([Blk1 b127 [.int .i64 zj.View.Epoch,.int .i64 zj.View.Leader,v115,v119,v123,
    .int .i64 zj.Told] 68]++(pc0_2++(c108++(pc0_4++(c116++(c120++(c124++(S0))))))))))∧fr' 256 = .bool (((decide (v_1.Kind=6))&&((v137&&(decide
    (zj.View.Epoch=v_0.Truth.Epoch)))&&(decide (v_1.To≠v_1.K))))&&(!v164))∧fr' 2 = .ptr b1 0∧fr' 3 = .ref [.int .i64 v_1.Kind,.int .i64 v_1.K,.int .i64 v_1.To,
    .int .i64 v_1.N] 0∧fr' 4 = .ptr b9 0∧fr' 7 = .ptr b127 0∧fr' 8 = .bool v137) rfl (fun Q691 hN692=>?_) ?_
  ·simp only [f4,i7]
   simp only [qr (g:=253),B0,reduceIte,a9]
   refine jm (t:=((decide (v_1.Kind=6))&&((v137&&(decide (zj.View.Epoch=v_0.Truth.Epoch)))&&(decide (v_1.To≠v_1.K))))) (fun hg693=>?_)
     (fun hg693=>?_)
   ·simp only [hg693,qr (g:=253),zl,f688,zr,ql,qcx,ko,jh,zo,za,qp,B0,reduceIte,a9]
    exact hN692 _ _ ⟨(i5 (i5 (i5 (i5 (i5 (i5 (i5 (i5 (i5 hS690))))))))),by rw [yb hg693]; simp only [B0,reduceIte,a9],f683,
      f684,f685,f686,f687⟩
   ·simp only [hg693,qr (g:=253),ku,jh,ql,zn,za,qp,B0,reduceIte,a9]
    exact hN692 _ _ ⟨(i5 (i5 (i5 (i5 (i5 (i5 (i5 (i5 (i5 hS690))))))))),by rw [yd hg693]; simp only [B0,reduceIte,a9],f683,
      f684,f685,f686,f687⟩
  rintro fr694 h701 ⟨hS702,f695,f696,f697,f698,f699,f700⟩
  simp only [i0,i6]
  simp only [f695,zr,ql,B0,reduceIte,a9]
  obtain ⟨v706,hx707,hF708⟩:=qk hF376
  refine we 10 (fun fr' h'=>Sep h' lo ([Blk1 b1 [.int .i64 v_0.Truth.Epoch,.int .i64 v_0.Truth.Leader,pv0_2,pv0_3,pv0_4] 28]++([Blk1 b9 [.int .i64 0,.int .i64 0,
    .nil,.nil,.nil] 28]++([Blk1 b127 [.int .i64 zj.View.Epoch,.int .i64 zj.View.Leader,v115,v119,v123,
    .int .i64 zj.Told] 68]++(pc0_2++(c108++(pc0_4++(c116++(c120++(c124 ++
    (S0))))))))))∧fr' 267 = .bool v706∧fr' 2 = .ptr b1 0∧fr' 3 = .ref [.int .i64 v_1.Kind,.int .i64 v_1.K,.int .i64 v_1.To,
    .int .i64 v_1.N] 0∧fr' 4 = .ptr b9 0∧fr' 7 = .ptr b127 0∧fr' 8 = .bool v137) rfl (fun Q703 hN704=>?_) ?_
  ·simp only [f4,i7]
   simp only [qr (g:=257),B0,reduceIte,a9]
   refine jm (t:=(((decide (v_1.Kind=6))&&((v137&&(decide (zj.View.Epoch=v_0.Truth.Epoch)))&&(decide (v_1.To≠v_1.K))))&&(!v164))) (fun hg705=>?_)
     (fun hg705=>?_)
   ·rw [iteT hg705] at hx707
    simp only [hg705,qr (g:=257),zl,f699,jb,ql,d8,d9,e8,zd,zt,B0,reduceIte,a9]
    refine qu (v:=v123) ((jv (o9 _ _ _ (l9 hS702))).trans rfl) ?_
    simp only [hg705,qr (g:=257),zl,f697,jb,ql,d8,d9,e8,qs,zt,B0,reduceIte,a9]
    refine qu (v := .int .i64 v_1.To) rfl ?_
    obtain ⟨x709,hx710,hF711⟩:=qk hx707
    simp only [hg705,qr (g:=257),zl,yz,B0,reduceIte,a9]
    obtain ⟨b712,hb713⟩:=a04 hv125 (j9 hx710)
    refine qu (a16 hv125 hb713 hx710) ?_
    simp only [hg705,qr (g:=257),zl,zt,B0,reduceIte,a9]
    refine qu (v := .int .i64 x709) ((SlF.ld (o:=0) hv125 (i5 hS702) hb713 hx710 (fun _=>rfl) (nle rfl)).trans rfl) ?_
    simp only [hg705,qr (g:=257),zl,f699,jb,ql,d8,d9,e8,zd,zt,B0,reduceIte,a9]
    refine qu (v := .int .i64 zj.Told) ((jv (o9 _ _ _ (l9 hS702))).trans rfl) ?_
    simp only [hg705,qr (g:=257),zl,k5,ql,qd9,jh,zo,za,qp,B0,reduceIte,a9]
    have e714:=qj hF711
    exact hN704 _ _ ⟨(i5 (i5 (i5 (i5 (i5 (i5 (i5 (i5 (i5 hS702))))))))),by rw [←e714]; simp only [B0,reduceIte,a9],f696,
      f697,f698,f699,f700⟩
   ·rw [iteF hg705] at hx707
    simp only [hg705,qr (g:=257),ku,jh,ql,zn,za,qp,B0,reduceIte,a9]
    have e715:=qj hx707
    exact hN704 _ _ ⟨(i5 (i5 (i5 (i5 (i5 (i5 (i5 (i5 (i5 hS702))))))))),by rw [←e715]; simp only [B0,reduceIte,a9],f696,
      f697,f698,f699,f700⟩
  rintro fr716 h723 ⟨hS724,f717,f718,f719,f720,f721,f722⟩
  simp only [i0,i6]
  simp only [f717,zr,ql,B0,reduceIte,a9]
  simp only [qr (g:=268),B0,reduceIte,a9]
  refine jm (t:=v706) (fun hg725=>?_) (fun hg725=>?_)
  ·rw [iteT hg725] at hF708
   simp only [hg725,qr (g:=268),zl,f721,qb2,ql,d8,d9,e8,zd,w9,B0,reduceIte,a9]
   refine qeh (Sep.ltk (l9 hS657)) ?_
   refine qu (v:=v123) ((jv (o9 _ _ _ (l9 hS724))).trans rfl) ?_
   simp only [hg725,qr (g:=268),zl,f719,qb2,ql,d8,d9,e8,qs,w9,xy,B0,reduceIte,
     a9]
   refine qu (v := .int .i64 v_1.To) rfl ?_
   obtain ⟨x726,hx727,hF728⟩:=qk hF708
   simp only [hg725,qr (g:=268),zl,qrw,B0,reduceIte,a9]
   obtain ⟨b729,hb730⟩:=a04 hv125 (j9 hx727)
   refine qu (a16 hv125 hb730 hx727) ?_
   simp only [hg725,qr (g:=268),zl,w9,B0,reduceIte,a9]
   refine qeh (SlF.ltk hv125 hb730 (i5 hS657)) ?_
   refine qu (v := .int .i64 x726) ((SlF.ld (o:=0) hv125 (i5 hS724) hb730 hx727 (fun _=>rfl) (nle rfl)).trans rfl) ?_
   simp only [hg725,qr (g:=268),zl,f721,zt,B0,reduceIte,a9]
   refine qu (v := .agg [.int .i64 zj.View.Epoch,.int .i64 zj.View.Leader,v115,v119,v123,
     .int .i64 zj.Told]) ((zu (o9 _ _ _ (l9 hS724))).trans rfl) ?_
   obtain ⟨v731,hx732,hF733⟩:=qk hF728
   simp only [hg725,qr (g:=268),zl,wg,B0,reduceIte,a9]
   refine qkf rfl (qi (zv (qi qo (qi qo (qi (a0c hv117 (s9 hS724) rfl (fun _=>rfl) (fun _=>rfl)) (qi (a0c hv121
     (o7 hS724) rfl (fun _=>rfl) (fun _=>rfl)) (qi (a0c hv125 (i5 hS724) rfl (fun _=>rfl) (fun _=>rfl)) (qi qo zc))))))) zc)
     (qet (fun b hb=>decide_eq_true hb) zj v731 hx732) ?_
   simp only [hg725,qr (g:=268),zl,k5,ql,qd9,jh,zo,zr,za,qgm,q9,B0,reduceIte,a9]
   refine qy (t:=(decide (v731≤x726))) (fun hc734=>?_) (fun hc734=>?_)
   ·rw [iteT hc734] at hF733
    simp only [qmm,qc,qd,f718,qn,B0,reduceIte,a9]
    refine qh (v := .agg [.int .i64 v_0.Truth.Epoch,.int .i64 v_0.Truth.Leader,pv0_2,pv0_3,pv0_4]) ((zu (o9 _ _ _ hS724)).trans rfl) ?_
    simp only [f719,qt,qb,d8,d9,e8,qs,qn,B0,reduceIte,a9]
    refine qh (v := .int .i64 v_1.K) rfl ?_
    simp only [f719,qt,qb,d8,d9,e8,qs,qn,B0,reduceIte,a9]
    refine qh (v := .int .i64 v_1.To) rfl ?_
    obtain ⟨c735,hv736,hS737⟩:=a0z (c:=c108) (os:=c116++(c120++(c124))) hv111 rfl hx104 z8 (Node.RI (x:=zj) hv117 hv121 hv125) (a0q (c1:=c116)
      (c2:=c120) (c3:=c124) (o7 (i5 (i5 (i5 hS724)))))
    have hv738:=a0s hv736
    obtain ⟨v739,hx740,hF741⟩:=qk hF733
    simp only [zg,B0,reduceIte,a9]
    refine y9 rfl (xq hW k v_0 pv0_2 pc0_2 ph0_2 pv0_3 c735 hv738 pv0_4 pc0_4 ph0_4 v_1.K v_1.To true v739 hx740 (t9 (n7 (t9 hS737)))) ?_
    rintro _ h750 ⟨v742,c743,c746,c748,rfl,hv744,hv747,hv749,hS751⟩
    simp only [f720,zp,B0,reduceIte,a9]
    refine zm (us:=[.int .i64 v739.Truth.Epoch,.int .i64 v739.Truth.Leader,v742,pv0_3,pv0_4]) rfl (cs':=[.int .i64 v739.Truth.Epoch,
      .int .i64 v739.Truth.Leader,v742,pv0_3,
      pv0_4]) (n9 hS751) hW rfl (qm rfl (qm rfl (qm (l7 hv744) (qm (a09 hv747) (qm (l7 hv749) zq))))) (nle rfl) rfl (fun h752 hS753=>?_)
    simp only [qf,qa,qx,B0,reduceIte,a9]
    have he:=qj hF741
    subst he
    refine jy (qi (j7 (bb:=b9) (oo:=0) (v := .agg [.int .i64 v739.Truth.Epoch,.int .i64 v739.Truth.Leader,v742,pv0_3,
      pv0_4]) (f720) ((zu (o9 _ _ _ hS753)).trans rfl)) (qi (ye (v := .bool true) (rfl)) zc)) ?_
    exact ⟨v742,c743,c746,pv0_4,c748,by first | trivial | rfl,hv744,hv747,hv749,(l9 (l9 (l9 (o8 (l6 (o8 (l6 (o8 (hS753)))))))))⟩
   rw [iteF hc734] at hF733
   simp only [qg0,qc,qd,f719,qt,qb,d8,d9,e8,qs,qn,B0,reduceIte,a9]
   refine qh (v := .int .i64 v_1.Kind) rfl ?_
   simp only [qz,qb,k6,qf,B0,reduceIte,a9]
   refine ji 2 (fun fr' h'=>Sep h' lo ([Blk1 b1 [.int .i64 v_0.Truth.Epoch,.int .i64 v_0.Truth.Leader,pv0_2,pv0_3,pv0_4] 28]++([Blk1 b9 [.int .i64 0,.int .i64 0,
     .nil,.nil,.nil] 28]++(pc0_2++(c108++(pc0_4++(c116++(c120++(c124++(S0)))))))))∧fr' 291 = .bool ((decide
     (v_1.Kind=7))&&v137)∧fr' 2 = .ptr b1 0∧fr' 3 = .ref [.int .i64 v_1.Kind,.int .i64 v_1.K,.int .i64 v_1.To,
     .int .i64 v_1.N] 0∧fr' 4 = .ptr b9 0) (fun Q754 hN755=>?_) ?_
   ·simp only [f4,i7]
    simp only [qe (g:=289),B0,reduceIte,a9]
    refine ze (t:=(decide (v_1.Kind=7))) (fun hg756=>?_) (fun hg756=>?_)
    ·simp only [hg756,qe (g:=289),zi,f722,qf,qw,qb,zo,qa,qp,B0,reduceIte,a9]
     exact hN755 _ _ ⟨(o7 (o7 (o7 (o7 (o7 (o7 (o7 (o7 (o8 (l9 hS724)))))))))),by rw [yb hg756]; simp only [B0,reduceIte,
       a9],f718,f719,f720⟩
    ·simp only [hg756,qe (g:=289),jj,qw,qb,zn,qa,qp,B0,reduceIte,a9]
     exact hN755 _ _ ⟨(o7 (o7 (o7 (o7 (o7 (o7 (o7 (o7 (o8 (l9 hS724)))))))))),by rw [yd hg756]; simp only [B0,reduceIte,
       a9],f718,f719,f720⟩
   rintro fr757 h762 ⟨hS763,f758,f759,f760,f761⟩
   simp only [i0,i6]
   simp only [f758,qf,qa,qg7,q9,B0,reduceIte,a9]
   refine qy (t:=((decide (v_1.Kind=7))&&v137)) (fun hc764=>?_) (fun hc764=>?_)
   ·rw [iteT hc764] at hF733
    simp only [qg8,qc,qd,f759,qn,B0,reduceIte,a9]
    refine qh (v := .agg [.int .i64 v_0.Truth.Epoch,.int .i64 v_0.Truth.Leader,pv0_2,pv0_3,pv0_4]) ((zu (o9 _ _ _ hS763)).trans rfl) ?_
    simp only [f760,qt,qb,d8,d9,e8,qs,qn,B0,reduceIte,a9]
    refine qh (v := .int .i64 v_1.K) rfl ?_
    obtain ⟨c765,hv766,hS767⟩:=a0z (c:=c108) (os:=c116++(c120++(c124))) hv111 rfl hx104 z8 (Node.RI (x:=zj) hv117 hv121 hv125) (a0q (c1:=c116)
      (c2:=c120) (c3:=c124) (s9 (o7 (o7 (o7 hS763)))))
    have hv768:=a0s hv766
    obtain ⟨v769,hx770,hF771⟩:=qk hF733
    simp only [zg,B0,reduceIte,a9]
    refine y9 rfl (qaa hW v_0 pv0_2 pc0_2 ph0_2 pv0_3 c765 hv768 pv0_4 pc0_4 ph0_4 v_1.K v769 hx770 (n9 (n7 (n9 hS767)))) ?_
    rintro _ h780 ⟨c772,c774,v776,c777,rfl,hv773,hv775,hv778,hS781⟩
    simp only [qfd,qb,qcd,qcb,f761,zp,B0,reduceIte,a9]
    refine zm (us:=[.int .i64 v769.1.Truth.Epoch,.int .i64 v769.1.Truth.Leader,pv0_2,pv0_3,v776]) rfl (cs':=[.int .i64 v769.1.Truth.Epoch,
      .int .i64 v769.1.Truth.Leader,pv0_2,pv0_3,
      v776]) (n9 hS781) hW rfl (qm rfl (qm rfl (qm (l7 hv773) (qm (a09 hv775) (qm (l7 hv778) zq))))) (nle rfl) rfl (fun h782 hS783=>?_)
    simp only [qf,qa,qx,B0,reduceIte,a9]
    have he:=qj hF771
    subst he
    refine jy (qi (j7 (bb:=b9) (oo:=0) (v := .agg [.int .i64 v769.1.Truth.Epoch,.int .i64 v769.1.Truth.Leader,pv0_2,pv0_3,
      v776]) (f761) ((zu (o9 _ _ _ hS783)).trans rfl)) (qi (ye (v := .bool v769.2) (rfl)) zc)) ?_
    exact ⟨pv0_2,c772,c774,v776,c777,by first | trivial | rfl,hv773,hv775,hv778,(l9 (l9 (l9 (o8 (l6 (o8 (hS783)))))))⟩
   rw [iteF hc764] at hF733
   simp only [qc,qd,f759,qn,B0,reduceIte,a9]
   refine qh (v := .agg [.int .i64 v_0.Truth.Epoch,.int .i64 v_0.Truth.Leader,pv0_2,pv0_3,pv0_4]) ((zu (o9 _ _ _ hS763)).trans rfl) ?_
   simp only [f761,zp,B0,reduceIte,a9]
   refine zm (us:=[.int .i64 v_0.Truth.Epoch,.int .i64 v_0.Truth.Leader,pv0_2,pv0_3,pv0_4]) rfl (cs':=[.int .i64 v_0.Truth.Epoch,.int .i64 v_0.Truth.Leader,
     pv0_2,pv0_3,pv0_4]) (n7 hS763) hW rfl (qm rfl (qm rfl (qm (l7 ph0_2) (qm (a3g hv111) (qm (l7 ph0_4) zq))))) (nle rfl) rfl
     (fun h784 hS785=>?_)
   simp only [qf,qa,qx,B0,reduceIte,a9]
   obtain ⟨c786,hv787,hS788⟩:=a0z (c:=c108) (os:=c116++(c120++(c124))) hv111 rfl hx104 z8 (Node.RI (x:=zj) hv117 hv121 hv125) (a0q (c1:=c116)
     (c2:=c120) (c3:=c124) (s9 (o7 (o7 (o7 hS785)))))
   have hv789:=a0s hv787
   have he:=qj hF733
   subst he
   refine jy (qi (j7 (bb:=b9) (oo:=0) (v := .agg [.int .i64 v_0.Truth.Epoch,.int .i64 v_0.Truth.Leader,pv0_2,pv0_3,
     pv0_4]) (f761) ((zu (o9 _ _ _ (n7 hS788))).trans rfl)) (qi (ye (v := .bool false) (rfl)) zc)) ?_
   exact ⟨pv0_2,pc0_2,c786,pv0_4,pc0_4,by first | trivial | rfl,ph0_2,hv789,ph0_4,(l9 (n7 (l9 (o8 (n7 (o8 (n7 hS788)))))))⟩
  rw [iteF hg725] at hF708
  simp only [hg725,qr (g:=268),ku,jh,ql,zn,zr,za,qgm,q9,qb6,qg0,qc,qd,f719,qt,
    qb,d8,d9,e8,qs,qn,B0,reduceIte,a9]
  refine qh (v := .int .i64 v_1.Kind) rfl ?_
  simp only [qz,qb,k6,qf,B0,reduceIte,a9]
  refine ji 2 (fun fr' h'=>Sep h' lo ([Blk1 b1 [.int .i64 v_0.Truth.Epoch,.int .i64 v_0.Truth.Leader,pv0_2,pv0_3,pv0_4] 28]++([Blk1 b9 [.int .i64 0,.int .i64 0,
    .nil,.nil,.nil] 28]++(pc0_2++(c108++(pc0_4++(c116++(c120++(c124++(S0)))))))))∧fr' 291 = .bool ((decide
    (v_1.Kind=7))&&v137)∧fr' 2 = .ptr b1 0∧fr' 3 = .ref [.int .i64 v_1.Kind,.int .i64 v_1.K,.int .i64 v_1.To,
    .int .i64 v_1.N] 0∧fr' 4 = .ptr b9 0) (fun Q790 hN791=>?_) ?_
  ·simp only [f4,i7]
   simp only [qe (g:=289),B0,reduceIte,a9]
   refine ze (t:=(decide (v_1.Kind=7))) (fun hg792=>?_) (fun hg792=>?_)
   ·simp only [hg792,qe (g:=289),zi,f722,qf,qw,qb,zo,qa,qp,B0,reduceIte,a9]
    exact hN791 _ _ ⟨(o7 (o7 (o7 (o7 (o7 (o7 (o7 (o7 (o8 (l9 hS724)))))))))),by rw [yb hg792]; simp only [B0,reduceIte,
      a9],f718,f719,f720⟩
   ·simp only [hg792,qe (g:=289),jj,qw,qb,zn,qa,qp,B0,reduceIte,a9]
    exact hN791 _ _ ⟨(o7 (o7 (o7 (o7 (o7 (o7 (o7 (o7 (o8 (l9 hS724)))))))))),by rw [yd hg792]; simp only [B0,reduceIte,
      a9],f718,f719,f720⟩
  rintro fr793 h798 ⟨hS799,f794,f795,f796,f797⟩
  simp only [i0,i6]
  simp only [f794,qf,qa,qg7,q9,B0,reduceIte,a9]
  refine qy (t:=((decide (v_1.Kind=7))&&v137)) (fun hc800=>?_) (fun hc800=>?_)
  ·rw [iteT hc800] at hF708
   simp only [qg8,qc,qd,f795,qn,B0,reduceIte,a9]
   refine qh (v := .agg [.int .i64 v_0.Truth.Epoch,.int .i64 v_0.Truth.Leader,pv0_2,pv0_3,pv0_4]) ((zu (o9 _ _ _ hS799)).trans rfl) ?_
   simp only [f796,qt,qb,d8,d9,e8,qs,qn,B0,reduceIte,a9]
   refine qh (v := .int .i64 v_1.K) rfl ?_
   obtain ⟨c801,hv802,hS803⟩:=a0z (c:=c108) (os:=c116++(c120++(c124))) hv111 rfl hx104 z8 (Node.RI (x:=zj) hv117 hv121 hv125) (a0q (c1:=c116)
     (c2:=c120) (c3:=c124) (s9 (o7 (o7 (o7 hS799)))))
   have hv804:=a0s hv802
   obtain ⟨v805,hx806,hF807⟩:=qk hF708
   simp only [zg,B0,reduceIte,a9]
   refine y9 rfl (qaa hW v_0 pv0_2 pc0_2 ph0_2 pv0_3 c801 hv804 pv0_4 pc0_4 ph0_4 v_1.K v805 hx806 (n9 (n7 (n9 hS803)))) ?_
   rintro _ h816 ⟨c808,c810,v812,c813,rfl,hv809,hv811,hv814,hS817⟩
   simp only [qfd,qb,qcd,qcb,f797,zp,B0,reduceIte,a9]
   refine zm (us:=[.int .i64 v805.1.Truth.Epoch,.int .i64 v805.1.Truth.Leader,pv0_2,pv0_3,v812]) rfl (cs':=[.int .i64 v805.1.Truth.Epoch,
     .int .i64 v805.1.Truth.Leader,pv0_2,pv0_3,
     v812]) (n9 hS817) hW rfl (qm rfl (qm rfl (qm (l7 hv809) (qm (a09 hv811) (qm (l7 hv814) zq))))) (nle rfl) rfl (fun h818 hS819=>?_)
   simp only [qf,qa,qx,B0,reduceIte,a9]
   have he:=qj hF807
   subst he
   refine jy (qi (j7 (bb:=b9) (oo:=0) (v := .agg [.int .i64 v805.1.Truth.Epoch,.int .i64 v805.1.Truth.Leader,pv0_2,pv0_3,
     v812]) (f797) ((zu (o9 _ _ _ hS819)).trans rfl)) (qi (ye (v := .bool v805.2) (rfl)) zc)) ?_
   exact ⟨pv0_2,c808,c810,v812,c813,by first | trivial | rfl,hv809,hv811,hv814,(l9 (l9 (l9 (o8 (l6 (o8 (hS819)))))))⟩
  rw [iteF hc800] at hF708
  simp only [qc,qd,f795,qn,B0,reduceIte,a9]
  refine qh (v := .agg [.int .i64 v_0.Truth.Epoch,.int .i64 v_0.Truth.Leader,pv0_2,pv0_3,pv0_4]) ((zu (o9 _ _ _ hS799)).trans rfl) ?_
  simp only [f797,zp,B0,reduceIte,a9]
  refine zm (us:=[.int .i64 v_0.Truth.Epoch,.int .i64 v_0.Truth.Leader,pv0_2,pv0_3,pv0_4]) rfl (cs':=[.int .i64 v_0.Truth.Epoch,.int .i64 v_0.Truth.Leader,
    pv0_2,pv0_3,pv0_4]) (n7 hS799) hW rfl (qm rfl (qm rfl (qm (l7 ph0_2) (qm (a3g hv111) (qm (l7 ph0_4) zq))))) (nle rfl) rfl
    (fun h820 hS821=>?_)
  simp only [qf,qa,qx,B0,reduceIte,a9]
  obtain ⟨c822,hv823,hS824⟩:=a0z (c:=c108) (os:=c116++(c120++(c124))) hv111 rfl hx104 z8 (Node.RI (x:=zj) hv117 hv121 hv125) (a0q (c1:=c116)
    (c2:=c120) (c3:=c124) (s9 (o7 (o7 (o7 hS821)))))
  have hv825:=a0s hv823
  have he:=qj hF708
  subst he
  refine jy (qi (j7 (bb:=b9) (oo:=0) (v := .agg [.int .i64 v_0.Truth.Epoch,.int .i64 v_0.Truth.Leader,pv0_2,pv0_3,
    pv0_4]) (f797) ((zu (o9 _ _ _ (n7 hS824))).trans rfl)) (qi (ye (v := .bool false) (rfl)) zc)) ?_
  exact ⟨pv0_2,pc0_2,c822,pv0_4,pc0_4,by first | trivial | rfl,ph0_2,hv825,ph0_4,(l9 (n7 (l9 (o8 (n7 (o8 (n7 hS824)))))))⟩
 rw [iteF hg363] at hF219
 simp only [hg363,qr (g:=197),ku,jh,ql,zn,zr,qr (g:=203),qr (g:=217),za,qma,q9,
   qb6,qmb,qc,qd,f355,qt,qb,d8,d9,e8,qs,qn,B0,reduceIte,a9]
 refine qh (v := .int .i64 v_1.Kind) rfl ?_
 simp only [qz,qb,k6,qf,B0,reduceIte,a9]
 refine ji 2 (fun fr' h'=>Sep h' lo ([Blk1 b1 [.int .i64 v_0.Truth.Epoch,.int .i64 v_0.Truth.Leader,pv0_2,pv0_3,pv0_4] 28]++([Blk1 b9 [.int .i64 0,.int .i64 0,.nil,
   .nil,.nil] 28]++([Blk1 b127 [.int .i64 zj.View.Epoch,.int .i64 zj.View.Leader,v115,v119,v123,
   .int .i64 zj.Told] 68]++(pc0_2++(c108++(pc0_4++(c116++(c120++(c124++(S0))))))))))∧fr' 236 = .bool ((decide (v_1.Kind=5))&&((v137&&(decide
   (zj.View.Epoch=v_0.Truth.Epoch)))&&(decide (v_1.To≠v_1.K))))∧fr' 2 = .ptr b1 0∧fr' 3 = .ref [.int .i64 v_1.Kind,.int .i64 v_1.K,.int .i64 v_1.To,
   .int .i64 v_1.N] 0∧fr' 4 = .ptr b9 0∧fr' 7 = .ptr b127 0∧fr' 8 = .bool v137∧fr' 9 = .bool ((v137&&(decide (zj.View.Epoch=v_0.Truth.Epoch)))&&(decide
   (v_1.To≠v_1.K)))∧fr' 10 = .bool v164) (fun Q826 hN827=>?_) ?_
 ·simp only [f4,i7]
  simp only [qe (g:=234),B0,reduceIte,a9]
  refine ze (t:=(decide (v_1.Kind=5))) (fun hg828=>?_) (fun hg828=>?_)
  ·simp only [hg828,qe (g:=234),zi,f359,qf,qw,qb,zo,qa,qp,B0,reduceIte,a9]
   exact hN827 _ _ ⟨(i5 (i5 (i5 (i5 (i5 (i5 (i5 (i5 (i5 hS362))))))))),by rw [yb hg828]; simp only [B0,reduceIte,a9],f354,
     f355,f356,f357,f358,f359,f360⟩
  ·simp only [hg828,qe (g:=234),jj,qw,qb,zn,qa,qp,B0,reduceIte,a9]
   exact hN827 _ _ ⟨(i5 (i5 (i5 (i5 (i5 (i5 (i5 (i5 (i5 hS362))))))))),by rw [yd hg828]; simp only [B0,reduceIte,a9],f354,
     f355,f356,f357,f358,f359,f360⟩
 rintro fr829 h838 ⟨hS839,f830,f831,f832,f833,f834,f835,f836,f837⟩
 simp only [i0,i6]
 simp only [f830,qf,B0,reduceIte,a9]
 refine ji 2 (fun fr' h'=>Sep h' lo ([Blk1 b1 [.int .i64 v_0.Truth.Epoch,.int .i64 v_0.Truth.Leader,pv0_2,pv0_3,pv0_4] 28]++([Blk1 b9 [.int .i64 0,.int .i64 0,.nil,
   .nil,.nil] 28]++([Blk1 b127 [.int .i64 zj.View.Epoch,.int .i64 zj.View.Leader,v115,v119,v123,
   .int .i64 zj.Told] 68]++(pc0_2++(c108++(pc0_4++(c116++(c120++(c124++(S0))))))))))∧fr' 239 = .bool (((decide (v_1.Kind=5))&&((v137&&(decide
   (zj.View.Epoch=v_0.Truth.Epoch)))&&(decide (v_1.To≠v_1.K))))&&v164)∧fr' 2 = .ptr b1 0∧fr' 3 = .ref [.int .i64 v_1.Kind,.int .i64 v_1.K,.int .i64 v_1.To,
   .int .i64 v_1.N] 0∧fr' 4 = .ptr b9 0∧fr' 7 = .ptr b127 0∧fr' 8 = .bool v137∧fr' 9 = .bool ((v137&&(decide (zj.View.Epoch=v_0.Truth.Epoch)))&&(decide
   (v_1.To≠v_1.K)))∧fr' 10 = .bool v164) (fun Q840 hN841=>?_) ?_
 ·simp only [f4,i7]
  simp only [qe (g:=237),B0,reduceIte,a9]
  refine ze (t:=((decide (v_1.Kind=5))&&((v137&&(decide (zj.View.Epoch=v_0.Truth.Epoch)))&&(decide (v_1.To≠v_1.K))))) (fun hg842=>?_) (fun hg842=>?_)
  ·simp only [hg842,qe (g:=237),zi,f837,qf,qw,qb,zo,qa,qp,B0,reduceIte,a9]
   exact hN841 _ _ ⟨(i5 (i5 (i5 (i5 (i5 (i5 (i5 (i5 (i5 hS839))))))))),by rw [yb hg842]; simp only [B0,reduceIte,a9],f831,
     f832,f833,f834,f835,f836,f837⟩
  ·simp only [hg842,qe (g:=237),jj,qw,qb,zn,qa,qp,B0,reduceIte,a9]
   exact hN841 _ _ ⟨(i5 (i5 (i5 (i5 (i5 (i5 (i5 (i5 (i5 hS839))))))))),by rw [yd hg842]; simp only [B0,reduceIte,a9],f831,
     f832,f833,f834,f835,f836,f837⟩
 rintro fr843 h852 ⟨hS853,f844,f845,f846,f847,f848,f849,f850,f851⟩
 simp only [i0,i6]
 simp only [f844,qf,qa,ql4,q9,B0,reduceIte,a9]
 refine qy (t:=(((decide (v_1.Kind=5))&&((v137&&(decide (zj.View.Epoch=v_0.Truth.Epoch)))&&(decide (v_1.To≠v_1.K))))&&v164)) (fun hc854=>?_)
   (fun hc854=>?_)
 ·rw [iteT hc854] at hF219
  simp only [qoj,qc,qd,f845,qn,B0,reduceIte,a9]
  refine qh (v := .agg [.int .i64 v_0.Truth.Epoch,.int .i64 v_0.Truth.Leader,pv0_2,pv0_3,pv0_4]) ((zu (o9 _ _ _ hS853)).trans rfl) ?_
  simp only [f846,qt,qb,d8,d9,e8,qs,qn,B0,reduceIte,a9]
  refine qh (v := .int .i64 v_1.K) rfl ?_
  simp only [f846,qt,qb,d8,d9,e8,qs,qn,B0,reduceIte,a9]
  refine qh (v := .int .i64 v_1.To) rfl ?_
  obtain ⟨c855,hv856,hS857⟩:=a0z (c:=c108) (os:=c116++(c120++(c124))) hv111 rfl hx104 z8 (Node.RI (x:=zj) hv117 hv121 hv125) (a0q (c1:=c116)
    (c2:=c120) (c3:=c124) (o7 (i5 (i5 (i5 hS853)))))
  have hv858:=a0s hv856
  obtain ⟨v859,hx860,hF861⟩:=qk hF219
  simp only [zg,B0,reduceIte,a9]
  refine y9 rfl (xq hW k v_0 pv0_2 pc0_2 ph0_2 pv0_3 c855 hv858 pv0_4 pc0_4 ph0_4 v_1.K v_1.To false v859 hx860 (t9 (n7 (t9 hS857)))) ?_
  rintro _ h870 ⟨v862,c863,c866,c868,rfl,hv864,hv867,hv869,hS871⟩
  simp only [f847,zp,B0,reduceIte,a9]
  refine zm (us:=[.int .i64 v859.Truth.Epoch,.int .i64 v859.Truth.Leader,v862,pv0_3,pv0_4]) rfl (cs':=[.int .i64 v859.Truth.Epoch,.int .i64 v859.Truth.Leader,
    v862,pv0_3,pv0_4]) (n9 hS871) hW rfl (qm rfl (qm rfl (qm (l7 hv864) (qm (a09 hv867) (qm (l7 hv869) zq))))) (nle rfl) rfl
    (fun h872 hS873=>?_)
  simp only [qf,qa,qx,B0,reduceIte,a9]
  have he:=qj hF861
  subst he
  refine jy (qi (j7 (bb:=b9) (oo:=0) (v := .agg [.int .i64 v859.Truth.Epoch,.int .i64 v859.Truth.Leader,v862,pv0_3,
    pv0_4]) (f847) ((zu (o9 _ _ _ hS873)).trans rfl)) (qi (ye (v := .bool true) (rfl)) zc)) ?_
  exact ⟨v862,c863,c866,pv0_4,c868,by first | trivial | rfl,hv864,hv867,hv869,(l9 (l9 (l9 (o8 (l6 (o8 (l6 (o8 (hS873)))))))))⟩
 rw [iteF hc854] at hF219
 simp only [ql6,qc,js,f846,jb,ql,d8,d9,e8,qs,zt,B0,reduceIte,a9]
 refine qu (v := .int .i64 v_1.Kind) rfl ?_
 simp only [k5,ql,k6,zr,B0,reduceIte,a9]
 refine we 2 (fun fr' h'=>Sep h' lo ([Blk1 b1 [.int .i64 v_0.Truth.Epoch,.int .i64 v_0.Truth.Leader,pv0_2,pv0_3,pv0_4] 28]++([Blk1 b9 [.int .i64 0,.int .i64 0,.nil,
   .nil,.nil] 28]++([Blk1 b127 [.int .i64 zj.View.Epoch,.int .i64 zj.View.Leader,v115,v119,v123,
   .int .i64 zj.Told] 68]++(pc0_2++(c108++(pc0_4++(c116++(c120++(c124++(S0))))))))))∧fr' 252 = .bool ((decide (v_1.Kind=6))&&((v137&&(decide
   (zj.View.Epoch=v_0.Truth.Epoch)))&&(decide (v_1.To≠v_1.K))))∧fr' 2 = .ptr b1 0∧fr' 3 = .ref [.int .i64 v_1.Kind,.int .i64 v_1.K,.int .i64 v_1.To,
   .int .i64 v_1.N] 0∧fr' 4 = .ptr b9 0∧fr' 7 = .ptr b127 0∧fr' 8 = .bool v137∧fr' 10 = .bool v164) rfl (fun Q874 hN875=>?_) ?_
 ·simp only [f4,i7]
  simp only [qr (g:=250),B0,reduceIte,a9]
  refine jm (t:=(decide (v_1.Kind=6))) (fun hg876=>?_) (fun hg876=>?_)
  ·simp only [hg876,qr (g:=250),zl,f850,zr,ql,jh,zo,za,qp,B0,reduceIte,a9]
   exact hN875 _ _ ⟨(i5 (i5 (i5 (i5 (i5 (i5 (i5 (i5 (i5 hS853))))))))),by rw [yb hg876]; simp only [B0,reduceIte,a9],f845,
     f846,f847,f848,f849,f851⟩
  ·simp only [hg876,qr (g:=250),ku,jh,ql,zn,za,qp,B0,reduceIte,a9]
   exact hN875 _ _ ⟨(i5 (i5 (i5 (i5 (i5 (i5 (i5 (i5 (i5 hS853))))))))),by rw [yd hg876]; simp only [B0,reduceIte,a9],f845,
     f846,f847,f848,f849,f851⟩
 rintro fr877 h885 ⟨hS886,f878,f879,f880,f881,f882,f883,f884⟩
 simp only [i0,i6]
 simp only [f878,zr,ql,B0,reduceIte,a9]
 refine we 3 (fun fr' h'=>Sep h' lo ([Blk1 b1 [.int .i64 v_0.Truth.Epoch,.int .i64 v_0.Truth.Leader,pv0_2,pv0_3,pv0_4] 28]++([Blk1 b9 [.int .i64 0,.int .i64 0,.nil,
   .nil,.nil] 28]++([Blk1 b127 [.int .i64 zj.View.Epoch,.int .i64 zj.View.Leader,v115,v119,v123,
   .int .i64 zj.Told] 68]++(pc0_2++(c108++(pc0_4++(c116++(c120++(c124++(S0))))))))))∧fr' 256 = .bool (((decide (v_1.Kind=6))&&((v137&&(decide
   (zj.View.Epoch=v_0.Truth.Epoch)))&&(decide (v_1.To≠v_1.K))))&&(!v164))∧fr' 2 = .ptr b1 0∧fr' 3 = .ref [.int .i64 v_1.Kind,.int .i64 v_1.K,.int .i64 v_1.To,
   .int .i64 v_1.N] 0∧fr' 4 = .ptr b9 0∧fr' 7 = .ptr b127 0∧fr' 8 = .bool v137) rfl (fun Q887 hN888=>?_) ?_
 ·simp only [f4,i7]
  simp only [qr (g:=253),B0,reduceIte,a9]
  refine jm (t:=((decide (v_1.Kind=6))&&((v137&&(decide (zj.View.Epoch=v_0.Truth.Epoch)))&&(decide (v_1.To≠v_1.K))))) (fun hg889=>?_)
    (fun hg889=>?_)
  ·simp only [hg889,qr (g:=253),zl,f884,zr,ql,qcx,ko,jh,zo,za,qp,B0,reduceIte,a9]
   exact hN888 _ _ ⟨(i5 (i5 (i5 (i5 (i5 (i5 (i5 (i5 (i5 hS886))))))))),by rw [yb hg889]; simp only [B0,reduceIte,a9],f879,
     f880,f881,f882,f883⟩
  ·simp only [hg889,qr (g:=253),ku,jh,ql,zn,za,qp,B0,reduceIte,a9]
   exact hN888 _ _ ⟨(i5 (i5 (i5 (i5 (i5 (i5 (i5 (i5 (i5 hS886))))))))),by rw [yd hg889]; simp only [B0,reduceIte,a9],f879,
     f880,f881,f882,f883⟩
 rintro fr890 h897 ⟨hS898,f891,f892,f893,f894,f895,f896⟩
 simp only [i0,i6]
 simp only [f891,zr,ql,B0,reduceIte,a9]
 obtain ⟨v902,hx903,hF904⟩:=qk hF219
 refine we 10 (fun fr' h'=>Sep h' lo ([Blk1 b1 [.int .i64 v_0.Truth.Epoch,.int .i64 v_0.Truth.Leader,pv0_2,pv0_3,pv0_4] 28]++([Blk1 b9 [.int .i64 0,.int .i64 0,
   .nil,.nil,.nil] 28]++([Blk1 b127 [.int .i64 zj.View.Epoch,.int .i64 zj.View.Leader,v115,v119,v123,
   .int .i64 zj.Told] 68]++(pc0_2++(c108++(pc0_4++(c116++(c120++(c124 ++
   (S0))))))))))∧fr' 267 = .bool v902∧fr' 2 = .ptr b1 0∧fr' 3 = .ref [.int .i64 v_1.Kind,.int .i64 v_1.K,.int .i64 v_1.To,
   .int .i64 v_1.N] 0∧fr' 4 = .ptr b9 0∧fr' 7 = .ptr b127 0∧fr' 8 = .bool v137) rfl (fun Q899 hN900=>?_) ?_
 ·simp only [f4,i7]
  simp only [qr (g:=257),B0,reduceIte,a9]
  refine jm (t:=(((decide (v_1.Kind=6))&&((v137&&(decide (zj.View.Epoch=v_0.Truth.Epoch)))&&(decide (v_1.To≠v_1.K))))&&(!v164))) (fun hg901=>?_)
    (fun hg901=>?_)
  ·rw [iteT hg901] at hx903
   simp only [hg901,qr (g:=257),zl,f895,jb,ql,d8,d9,e8,zd,zt,B0,reduceIte,a9]
   refine qu (v:=v123) ((jv (o9 _ _ _ (l9 hS898))).trans rfl) ?_
   simp only [hg901,qr (g:=257),zl,f893,jb,ql,d8,d9,e8,qs,zt,B0,reduceIte,a9]
   refine qu (v := .int .i64 v_1.To) rfl ?_
   obtain ⟨x905,hx906,hF907⟩:=qk hx903
   simp only [hg901,qr (g:=257),zl,yz,B0,reduceIte,a9]
   obtain ⟨b908,hb909⟩:=a04 hv125 (j9 hx906)
   refine qu (a16 hv125 hb909 hx906) ?_
   simp only [hg901,qr (g:=257),zl,zt,B0,reduceIte,a9]
   refine qu (v := .int .i64 x905) ((SlF.ld (o:=0) hv125 (i5 hS898) hb909 hx906 (fun _=>rfl) (nle rfl)).trans rfl) ?_
   simp only [hg901,qr (g:=257),zl,f895,jb,ql,d8,d9,e8,zd,zt,B0,reduceIte,a9]
   refine qu (v := .int .i64 zj.Told) ((jv (o9 _ _ _ (l9 hS898))).trans rfl) ?_
   simp only [hg901,qr (g:=257),zl,k5,ql,qd9,jh,zo,za,qp,B0,reduceIte,a9]
   have e910:=qj hF907
   exact hN900 _ _ ⟨(i5 (i5 (i5 (i5 (i5 (i5 (i5 (i5 (i5 hS898))))))))),by rw [←e910]; simp only [B0,reduceIte,a9],f892,f893,
     f894,f895,f896⟩
  ·rw [iteF hg901] at hx903
   simp only [hg901,qr (g:=257),ku,jh,ql,zn,za,qp,B0,reduceIte,a9]
   have e911:=qj hx903
   exact hN900 _ _ ⟨(i5 (i5 (i5 (i5 (i5 (i5 (i5 (i5 (i5 hS898))))))))),by rw [←e911]; simp only [B0,reduceIte,a9],f892,f893,
     f894,f895,f896⟩
 rintro fr912 h919 ⟨hS920,f913,f914,f915,f916,f917,f918⟩
 simp only [i0,i6]
 simp only [f913,zr,ql,B0,reduceIte,a9]
 simp only [qr (g:=268),B0,reduceIte,a9]
 refine jm (t:=v902) (fun hg921=>?_) (fun hg921=>?_)
 ·rw [iteT hg921] at hF904
  simp only [hg921,qr (g:=268),zl,f917,qb2,ql,d8,d9,e8,zd,w9,B0,reduceIte,a9]
  refine qeh (Sep.ltk (l9 hS853)) ?_
  refine qu (v:=v123) ((jv (o9 _ _ _ (l9 hS920))).trans rfl) ?_
  simp only [hg921,qr (g:=268),zl,f915,qb2,ql,d8,d9,e8,qs,w9,xy,B0,reduceIte,a9]
  refine qu (v := .int .i64 v_1.To) rfl ?_
  obtain ⟨x922,hx923,hF924⟩:=qk hF904
  simp only [hg921,qr (g:=268),zl,qrw,B0,reduceIte,a9]
  obtain ⟨b925,hb926⟩:=a04 hv125 (j9 hx923)
  refine qu (a16 hv125 hb926 hx923) ?_
  simp only [hg921,qr (g:=268),zl,w9,B0,reduceIte,a9]
  refine qeh (SlF.ltk hv125 hb926 (i5 hS853)) ?_
  refine qu (v := .int .i64 x922) ((SlF.ld (o:=0) hv125 (i5 hS920) hb926 hx923 (fun _=>rfl) (nle rfl)).trans rfl) ?_
  simp only [hg921,qr (g:=268),zl,f917,zt,B0,reduceIte,a9]
  refine qu (v := .agg [.int .i64 zj.View.Epoch,.int .i64 zj.View.Leader,v115,v119,v123,.int .i64 zj.Told]) ((zu (o9 _ _ _ (l9 hS920))).trans rfl) ?_
  obtain ⟨v927,hx928,hF929⟩:=qk hF924
  simp only [hg921,qr (g:=268),zl,wg,B0,reduceIte,a9]
  refine qkf rfl (qi (zv (qi qo (qi qo (qi (a0c hv117 (s9 hS920) rfl (fun _=>rfl) (fun _=>rfl)) (qi (a0c hv121
    (o7 hS920) rfl (fun _=>rfl) (fun _=>rfl)) (qi (a0c hv125 (i5 hS920) rfl (fun _=>rfl) (fun _=>rfl)) (qi qo zc))))))) zc)
    (qet (fun b hb=>decide_eq_true hb) zj v927 hx928) ?_
  simp only [hg921,qr (g:=268),zl,k5,ql,qd9,jh,zo,zr,za,qgm,q9,B0,reduceIte,a9]
  refine qy (t:=(decide (v927≤x922))) (fun hc930=>?_) (fun hc930=>?_)
  ·rw [iteT hc930] at hF929
   simp only [qmm,qc,qd,f914,qn,B0,reduceIte,a9]
   refine qh (v := .agg [.int .i64 v_0.Truth.Epoch,.int .i64 v_0.Truth.Leader,pv0_2,pv0_3,pv0_4]) ((zu (o9 _ _ _ hS920)).trans rfl) ?_
   simp only [f915,qt,qb,d8,d9,e8,qs,qn,B0,reduceIte,a9]
   refine qh (v := .int .i64 v_1.K) rfl ?_
   simp only [f915,qt,qb,d8,d9,e8,qs,qn,B0,reduceIte,a9]
   refine qh (v := .int .i64 v_1.To) rfl ?_
   obtain ⟨c931,hv932,hS933⟩:=a0z (c:=c108) (os:=c116++(c120++(c124))) hv111 rfl hx104 z8 (Node.RI (x:=zj) hv117 hv121 hv125) (a0q (c1:=c116)
     (c2:=c120) (c3:=c124) (o7 (i5 (i5 (i5 hS920)))))
   have hv934:=a0s hv932
   obtain ⟨v935,hx936,hF937⟩:=qk hF929
   simp only [zg,B0,reduceIte,a9]
   refine y9 rfl (xq hW k v_0 pv0_2 pc0_2 ph0_2 pv0_3 c931 hv934 pv0_4 pc0_4 ph0_4 v_1.K v_1.To true v935 hx936 (t9 (n7 (t9 hS933)))) ?_
   rintro _ h946 ⟨v938,c939,c942,c944,rfl,hv940,hv943,hv945,hS947⟩
   simp only [f916,zp,B0,reduceIte,a9]
   refine zm (us:=[.int .i64 v935.Truth.Epoch,.int .i64 v935.Truth.Leader,v938,pv0_3,pv0_4]) rfl (cs':=[.int .i64 v935.Truth.Epoch,.int .i64 v935.Truth.Leader,
     v938,pv0_3,pv0_4]) (n9 hS947) hW rfl (qm rfl (qm rfl (qm (l7 hv940) (qm (a09 hv943) (qm (l7 hv945) zq))))) (nle rfl) rfl
     (fun h948 hS949=>?_)
   simp only [qf,qa,qx,B0,reduceIte,a9]
   have he:=qj hF937
   subst he
   refine jy (qi (j7 (bb:=b9) (oo:=0) (v := .agg [.int .i64 v935.Truth.Epoch,.int .i64 v935.Truth.Leader,v938,pv0_3,
     pv0_4]) (f916) ((zu (o9 _ _ _ hS949)).trans rfl)) (qi (ye (v := .bool true) (rfl)) zc)) ?_
   exact ⟨v938,c939,c942,pv0_4,c944,by first | trivial | rfl,hv940,hv943,hv945,(l9 (l9 (l9 (o8 (l6 (o8 (l6 (o8 (hS949)))))))))⟩
  rw [iteF hc930] at hF929
  simp only [qg0,qc,qd,f915,qt,qb,d8,d9,e8,qs,qn,B0,reduceIte,a9]
  refine qh (v := .int .i64 v_1.Kind) rfl ?_
  simp only [qz,qb,k6,qf,B0,reduceIte,a9]
  refine ji 2 (fun fr' h'=>Sep h' lo ([Blk1 b1 [.int .i64 v_0.Truth.Epoch,.int .i64 v_0.Truth.Leader,pv0_2,pv0_3,pv0_4] 28]++([Blk1 b9 [.int .i64 0,.int .i64 0,
    .nil,.nil,.nil] 28]++(pc0_2++(c108++(pc0_4++(c116++(c120++(c124++(S0)))))))))∧fr' 291 = .bool ((decide
    (v_1.Kind=7))&&v137)∧fr' 2 = .ptr b1 0∧fr' 3 = .ref [.int .i64 v_1.Kind,.int .i64 v_1.K,.int .i64 v_1.To,
    .int .i64 v_1.N] 0∧fr' 4 = .ptr b9 0) (fun Q950 hN951=>?_) ?_
  ·simp only [f4,i7]
   simp only [qe (g:=289),B0,reduceIte,a9]
   refine ze (t:=(decide (v_1.Kind=7))) (fun hg952=>?_) (fun hg952=>?_)
   ·simp only [hg952,qe (g:=289),zi,f918,qf,qw,qb,zo,qa,qp,B0,reduceIte,a9]
    exact hN951 _ _ ⟨(o7 (o7 (o7 (o7 (o7 (o7 (o7 (o7 (o8 (l9 hS920)))))))))),by rw [yb hg952]; simp only [B0,reduceIte,
      a9],f914,f915,f916⟩
   ·simp only [hg952,qe (g:=289),jj,qw,qb,zn,qa,qp,B0,reduceIte,a9]
    exact hN951 _ _ ⟨(o7 (o7 (o7 (o7 (o7 (o7 (o7 (o7 (o8 (l9 hS920)))))))))),by rw [yd hg952]; simp only [B0,reduceIte,
      a9],f914,f915,f916⟩
  rintro fr953 h958 ⟨hS959,f954,f955,f956,f957⟩
  simp only [i0,i6]
  simp only [f954,qf,qa,qg7,q9,B0,reduceIte,a9]
  refine qy (t:=((decide (v_1.Kind=7))&&v137)) (fun hc960=>?_) (fun hc960=>?_)
  ·rw [iteT hc960] at hF929
   simp only [qg8,qc,qd,f955,qn,B0,reduceIte,a9]
   refine qh (v := .agg [.int .i64 v_0.Truth.Epoch,.int .i64 v_0.Truth.Leader,pv0_2,pv0_3,pv0_4]) ((zu (o9 _ _ _ hS959)).trans rfl) ?_
   simp only [f956,qt,qb,d8,d9,e8,qs,qn,B0,reduceIte,a9]
   refine qh (v := .int .i64 v_1.K) rfl ?_
   obtain ⟨c961,hv962,hS963⟩:=a0z (c:=c108) (os:=c116++(c120++(c124))) hv111 rfl hx104 z8 (Node.RI (x:=zj) hv117 hv121 hv125) (a0q (c1:=c116)
     (c2:=c120) (c3:=c124) (s9 (o7 (o7 (o7 hS959)))))
   have hv964:=a0s hv962
   obtain ⟨v965,hx966,hF967⟩:=qk hF929
   simp only [zg,B0,reduceIte,a9]
   refine y9 rfl (qaa hW v_0 pv0_2 pc0_2 ph0_2 pv0_3 c961 hv964 pv0_4 pc0_4 ph0_4 v_1.K v965 hx966 (n9 (n7 (n9 hS963)))) ?_
   rintro _ h976 ⟨c968,c970,v972,c973,rfl,hv969,hv971,hv974,hS977⟩
   simp only [qfd,qb,qcd,qcb,f957,zp,B0,reduceIte,a9]
   refine zm (us:=[.int .i64 v965.1.Truth.Epoch,.int .i64 v965.1.Truth.Leader,pv0_2,pv0_3,v972]) rfl (cs':=[.int .i64 v965.1.Truth.Epoch,
     .int .i64 v965.1.Truth.Leader,pv0_2,pv0_3,
     v972]) (n9 hS977) hW rfl (qm rfl (qm rfl (qm (l7 hv969) (qm (a09 hv971) (qm (l7 hv974) zq))))) (nle rfl) rfl (fun h978 hS979=>?_)
   simp only [qf,qa,qx,B0,reduceIte,a9]
   have he:=qj hF967
   subst he
   refine jy (qi (j7 (bb:=b9) (oo:=0) (v := .agg [.int .i64 v965.1.Truth.Epoch,.int .i64 v965.1.Truth.Leader,pv0_2,pv0_3,
     v972]) (f957) ((zu (o9 _ _ _ hS979)).trans rfl)) (qi (ye (v := .bool v965.2) (rfl)) zc)) ?_
   exact ⟨pv0_2,c968,c970,v972,c973,by first | trivial | rfl,hv969,hv971,hv974,(l9 (l9 (l9 (o8 (l6 (o8 (hS979)))))))⟩
  rw [iteF hc960] at hF929
  simp only [qc,qd,f955,qn,B0,reduceIte,a9]
  refine qh (v := .agg [.int .i64 v_0.Truth.Epoch,.int .i64 v_0.Truth.Leader,pv0_2,pv0_3,pv0_4]) ((zu (o9 _ _ _ hS959)).trans rfl) ?_
  simp only [f957,zp,B0,reduceIte,a9]
  refine zm (us:=[.int .i64 v_0.Truth.Epoch,.int .i64 v_0.Truth.Leader,pv0_2,pv0_3,pv0_4]) rfl (cs':=[.int .i64 v_0.Truth.Epoch,.int .i64 v_0.Truth.Leader,
    pv0_2,pv0_3,pv0_4]) (n7 hS959) hW rfl (qm rfl (qm rfl (qm (l7 ph0_2) (qm (a3g hv111) (qm (l7 ph0_4) zq))))) (nle rfl) rfl
    (fun h980 hS981=>?_)
  simp only [qf,qa,qx,B0,reduceIte,a9]
  obtain ⟨c982,hv983,hS984⟩:=a0z (c:=c108) (os:=c116++(c120++(c124))) hv111 rfl hx104 z8 (Node.RI (x:=zj) hv117 hv121 hv125) (a0q (c1:=c116)
    (c2:=c120) (c3:=c124) (s9 (o7 (o7 (o7 hS981)))))
  have hv985:=a0s hv983
  have he:=qj hF929
  subst he
  refine jy (qi (j7 (bb:=b9) (oo:=0) (v := .agg [.int .i64 v_0.Truth.Epoch,.int .i64 v_0.Truth.Leader,pv0_2,pv0_3,
    pv0_4]) (f957) ((zu (o9 _ _ _ (n7 hS984))).trans rfl)) (qi (ye (v := .bool false) (rfl)) zc)) ?_
  exact ⟨pv0_2,pc0_2,c982,pv0_4,pc0_4,by first | trivial | rfl,ph0_2,hv985,ph0_4,(l9 (n7 (l9 (o8 (n7 (o8 (n7 hS984)))))))⟩
 rw [iteF hg921] at hF904
 simp only [hg921,qr (g:=268),ku,jh,ql,zn,zr,za,qgm,q9,qb6,qg0,qc,qd,f915,qt,
   qb,d8,d9,e8,qs,qn,B0,reduceIte,a9]
 refine qh (v := .int .i64 v_1.Kind) rfl ?_
 simp only [qz,qb,k6,qf,B0,reduceIte,a9]
 refine ji 2 (fun fr' h'=>Sep h' lo ([Blk1 b1 [.int .i64 v_0.Truth.Epoch,.int .i64 v_0.Truth.Leader,pv0_2,pv0_3,pv0_4] 28]++([Blk1 b9 [.int .i64 0,.int .i64 0,.nil,
   .nil,.nil] 28]++(pc0_2++(c108++(pc0_4++(c116++(c120++(c124++(S0)))))))))∧fr' 291 = .bool ((decide
   (v_1.Kind=7))&&v137)∧fr' 2 = .ptr b1 0∧fr' 3 = .ref [.int .i64 v_1.Kind,.int .i64 v_1.K,.int .i64 v_1.To,
   .int .i64 v_1.N] 0∧fr' 4 = .ptr b9 0) (fun Q986 hN987=>?_) ?_
 ·simp only [f4,i7]
  simp only [qe (g:=289),B0,reduceIte,a9]
  refine ze (t:=(decide (v_1.Kind=7))) (fun hg988=>?_) (fun hg988=>?_)
  ·simp only [hg988,qe (g:=289),zi,f918,qf,qw,qb,zo,qa,qp,B0,reduceIte,a9]
   exact hN987 _ _ ⟨(o7 (o7 (o7 (o7 (o7 (o7 (o7 (o7 (o8 (l9 hS920)))))))))),by rw [yb hg988]; simp only [B0,reduceIte,
     a9],f914,f915,f916⟩
  ·simp only [hg988,qe (g:=289),jj,qw,qb,zn,qa,qp,B0,reduceIte,a9]
   exact hN987 _ _ ⟨(o7 (o7 (o7 (o7 (o7 (o7 (o7 (o7 (o8 (l9 hS920)))))))))),by rw [yd hg988]; simp only [B0,reduceIte,
     a9],f914,f915,f916⟩
 rintro fr989 h994 ⟨hS995,f990,f991,f992,f993⟩
 simp only [i0,i6]
 simp only [f990,qf,qa,qg7,q9,B0,reduceIte,a9]
 refine qy (t:=((decide (v_1.Kind=7))&&v137)) (fun hc996=>?_) (fun hc996=>?_)
 ·rw [iteT hc996] at hF904
  simp only [qg8,qc,qd,f991,qn,B0,reduceIte,a9]
  refine qh (v := .agg [.int .i64 v_0.Truth.Epoch,.int .i64 v_0.Truth.Leader,pv0_2,pv0_3,pv0_4]) ((zu (o9 _ _ _ hS995)).trans rfl) ?_
  simp only [f992,qt,qb,d8,d9,e8,qs,qn,B0,reduceIte,a9]
  refine qh (v := .int .i64 v_1.K) rfl ?_
  obtain ⟨c997,hv998,hS999⟩:=a0z (c:=c108) (os:=c116++(c120++(c124))) hv111 rfl hx104 z8 (Node.RI (x:=zj) hv117 hv121 hv125) (a0q (c1:=c116)
    (c2:=c120) (c3:=c124) (s9 (o7 (o7 (o7 hS995)))))
  have hv1000:=a0s hv998
  obtain ⟨v1001,hx1002,hF1003⟩:=qk hF904
  simp only [zg,B0,reduceIte,a9]
  refine y9 rfl (qaa hW v_0 pv0_2 pc0_2 ph0_2 pv0_3 c997 hv1000 pv0_4 pc0_4 ph0_4 v_1.K v1001 hx1002 (n9 (n7 (n9 hS999)))) ?_
  rintro _ h1012 ⟨c1004,c1006,v1008,c1009,rfl,hv1005,hv1007,hv1010,hS1013⟩
  simp only [qfd,qb,qcd,qcb,f993,zp,B0,reduceIte,a9]
  refine zm (us:=[.int .i64 v1001.1.Truth.Epoch,.int .i64 v1001.1.Truth.Leader,pv0_2,pv0_3,v1008]) rfl (cs':=[.int .i64 v1001.1.Truth.Epoch,
    .int .i64 v1001.1.Truth.Leader,pv0_2,pv0_3,
    v1008]) (n9 hS1013) hW rfl (qm rfl (qm rfl (qm (l7 hv1005) (qm (a09 hv1007) (qm (l7 hv1010) zq))))) (nle rfl) rfl
    (fun h1014 hS1015=>?_)
  simp only [qf,qa,qx,B0,reduceIte,a9]
  have he:=qj hF1003
  subst he
  refine jy (qi (j7 (bb:=b9) (oo:=0) (v := .agg [.int .i64 v1001.1.Truth.Epoch,.int .i64 v1001.1.Truth.Leader,pv0_2,pv0_3,
    v1008]) (f993) ((zu (o9 _ _ _ hS1015)).trans rfl)) (qi (ye (v := .bool v1001.2) (rfl)) zc)) ?_
  exact ⟨pv0_2,c1004,c1006,v1008,c1009,by first | trivial | rfl,hv1005,hv1007,hv1010,(l9 (l9 (l9 (o8 (l6 (o8 (hS1015)))))))⟩
 rw [iteF hc996] at hF904
 simp only [qc,qd,f991,qn,B0,reduceIte,a9]
 refine qh (v := .agg [.int .i64 v_0.Truth.Epoch,.int .i64 v_0.Truth.Leader,pv0_2,pv0_3,pv0_4]) ((zu (o9 _ _ _ hS995)).trans rfl) ?_
 simp only [f993,zp,B0,reduceIte,a9]
 refine zm (us:=[.int .i64 v_0.Truth.Epoch,.int .i64 v_0.Truth.Leader,pv0_2,pv0_3,pv0_4]) rfl (cs':=[.int .i64 v_0.Truth.Epoch,.int .i64 v_0.Truth.Leader,pv0_2,
   pv0_3,pv0_4]) (n7 hS995) hW rfl (qm rfl (qm rfl (qm (l7 ph0_2) (qm (a3g hv111) (qm (l7 ph0_4) zq))))) (nle rfl) rfl
   (fun h1016 hS1017=>?_)
 simp only [qf,qa,qx,B0,reduceIte,a9]
 obtain ⟨c1018,hv1019,hS1020⟩:=a0z (c:=c108) (os:=c116++(c120++(c124))) hv111 rfl hx104 z8 (Node.RI (x:=zj) hv117 hv121 hv125) (a0q (c1:=c116)
   (c2:=c120) (c3:=c124) (s9 (o7 (o7 (o7 hS1017)))))
 have hv1021:=a0s hv1019
 have he:=qj hF904
 subst he
 refine jy (qi (j7 (bb:=b9) (oo:=0) (v := .agg [.int .i64 v_0.Truth.Epoch,.int .i64 v_0.Truth.Leader,pv0_2,pv0_3,
   pv0_4]) (f993) ((zu (o9 _ _ _ (n7 hS1020))).trans rfl)) (qi (ye (v := .bool false) (rfl)) zc)) ?_
 exact ⟨pv0_2,pc0_2,c1018,pv0_4,pc0_4,by first | trivial | rfl,ph0_2,hv1021,ph0_4,(l9 (n7 (l9 (o8 (n7 (o8 (n7 hS1020)))))))⟩
end Go.Proofs.Ytohofoampalhoaa.X
