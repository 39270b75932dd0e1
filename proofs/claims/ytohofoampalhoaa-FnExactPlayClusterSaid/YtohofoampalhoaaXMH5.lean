/- The functions' code comes to what the plain functions say (5). -/
import Derived.Test.YtohofoampalhoaaXMH4
open List renaming append_assoc→a0f,drop_succ_cons→t9,drop_zero→a0c,length→t6,nil_append→a0z,set→a1u,take_succ_cons→t8,take_zero→a0d
open Nat renaming add_zero→t5,reduceAdd→s5,reduceEqDiff→a9,zero_add→s9
open Option renaming map_none→a1k,map_some→a02
open Go.Proofs.Ytohofoampalhoaa.X.Sep renaming bk→a0r,dc→a0s,m1→a0l,m2→a0k,m3→a0e,m4→a0i,m5→a03,m6→a0v,m7→a0j,ni3→a1p,nil→a1q,no3→a2x
open Go.Proofs.Ytohofoampalhoaa.X.SlF renaming ia→a2u,isrow→a13,one→a0g,plen→a2i,rowfp→a31
open Go.Proofs.Ytohofoampalhoaa.X.SlG renaming cls0→a1x,cls→a3u,ld→a2s,opn→a2w,toN→a1s
open Go.Proofs.Ytohofoampalhoaa.X.SlN renaming one→a10,toG→a26
set_option linter.unusedVariables false
set_option linter.unusedSimpArgs false
set_option maxRecDepth 100000
namespace Go.Proofs.Ytohofoampalhoaa.X
open Go
theorem qlm {W:Nat→Bool}{h:Heap} (hW:∀ b,
  (geL h.length) b→W b=true) (f0:Cluster) (r:Bool) (hF:qb6 f0=some r) : Ret E W 59 [.agg [.int .i64 f0.Truth.Epoch,.int .i64 f0.Truth.Leader,
  lst cI f0.Truth.InStep,lst qz f0.Nodes,lst qm f0.Acked]] h (fun v h'=>cut h.length h' E.sz false 9 v=some (.bool r)):=by
 refine Ret.of (fn:=x59) rfl (Run.of ?_)
 unfold qb6 at hF
 have zf0:zb [.agg [.int .i64 f0.Truth.Epoch,.int .i64 f0.Truth.Leader,lst cI f0.Truth.InStep,lst qz f0.Nodes,
   lst qm f0.Acked]] 0 = .agg [.int .i64 f0.Truth.Epoch,.int .i64 f0.Truth.Leader,lst cI f0.Truth.InStep,lst qz f0.Nodes,lst qm f0.Acked]:=rfl
 generalize zb [.agg [.int .i64 f0.Truth.Epoch,.int .i64 f0.Truth.Leader,lst cI f0.Truth.InStep,lst qz f0.Nodes,lst qm f0.Acked]]=fr0 at zf0 ⊢
 have hS:Sep h (geL h.length) []:=a1q h
 simp only [x59,qe,qc,j7,zf0,B0,reduceIte,a9]
 refine jm (cs:=[.int .i64 f0.Truth.Epoch,.int .i64 f0.Truth.Leader,lst cI f0.Truth.InStep,lst qz f0.Nodes,
   lst qm f0.Acked]) hS rfl rfl rfl (fun b1 h2 hS3=>?_)
 simp only [qd,qa,B0,reduceIte,a9]
 refine jc hS3 hW (by simp only [B0,reduceIte,a9]) (fun h5 hS6=>?_)
 simp only [jd,q1c,qe,qc,qq,qb,s5,s9,t5,qr,qn,B0,reduceIte,a9]
 refine qg (v:=lst qz f0.Nodes) rfl ?_
 simp only [zy,qb,je,zi,B0,reduceIte,a9]
 refine ju rfl (ql qs (ql qs (ql qs zh))) (xn (fun b hb=>decide_eq_true hb) (t6 f0.Nodes:Int) 2 4 _ rfl) ?_
 simp only [kh,qb,kz,qd,B0,reduceIte,a9]
 obtain ⟨v10,hx11,hF12⟩:=qi hF
 refine jj 8 (fun fr' h'=>Sep h' (geL h.length) ([])∧fr' 18 = .bool v10∧fr' 1 = .ref [.int .i64 f0.Truth.Epoch,.int .i64 f0.Truth.Leader,lst cI f0.Truth.InStep,
   lst qz f0.Nodes,lst qm f0.Acked] 0) (fun Q7 hN8=>?_) ?_
 ·simp only [t8,a0d]
  simp only [qf (g:=10),B0,reduceIte,a9]
  refine zj (t:=(!(zw (t6 f0.Nodes:Int) 2 4))) (fun hg9=>?_) (fun hg9=>?_)
  ·rw [iteT hg9] at hx11
   simp only [hg9,qf (g:=10),jr,qx,qb,zo,qa,qo,B0,reduceIte,a9]
   have e13:=qh hx11
   exact hN8 _ _ ⟨hS6,by rw [←e13]; simp only [B0,reduceIte,a9],rfl⟩
  ·rw [iteF hg9] at hx11
   simp only [hg9,qf (g:=10),q8,qq,qb,s5,s9,t5,qr,qn,B0,reduceIte,a9]
   refine qg (v := .agg [.int .i64 f0.Truth.Epoch,.int .i64 f0.Truth.Leader,lst cI f0.Truth.InStep]) rfl ?_
   simp only [hg9,qf (g:=10),q8,qq,qb,s5,s9,t5,qr,qn,B0,reduceIte,a9]
   refine qg (v:=lst qz f0.Nodes) rfl ?_
   obtain ⟨v14,hx15,hF16⟩:=qi hx11
   simp only [hg9,qf (g:=10),q8,zy,qb,je,zi,B0,reduceIte,a9]
   refine ju rfl (ql (jo (ql qs (ql qs (ql z8 zh)))) (ql qs zh)) (qjw (fun b hb=>decide_eq_true hb) f0.Truth
     (t6 f0.Nodes:Int) v14 hx15) ?_
   simp only [hg9,qf (g:=10),q8,kh,qb,kz,qx,zn,qa,qo,B0,reduceIte,a9]
   have e17:=qh hF16
   exact hN8 _ _ ⟨hS6,by rw [←e17]; simp only [B0,reduceIte,a9],rfl⟩
 rintro fr18 h21 ⟨hS22,f19,f20⟩
 simp only [t9,a0c]
 simp only [f19,qd,B0,reduceIte,a9]
 refine jj 5 (fun fr' h'=>Sep h' (geL h.length) ([])∧fr' 24 = .bool (v10||(decide ((30:Int) <
   (t6 f0.Acked:Int))))∧fr' 1 = .ref [.int .i64 f0.Truth.Epoch,.int .i64 f0.Truth.Leader,lst cI f0.Truth.InStep,lst qz f0.Nodes,
   lst qm f0.Acked] 0) (fun Q23 hN24=>?_) ?_
 ·simp only [t8,a0d]
  simp only [qf (g:=19),B0,reduceIte,a9]
  refine zj (t:=v10) (fun hg25=>?_) (fun hg25=>?_)
  ·simp only [hg25,qf (g:=19),jr,qx,qb,zo,qa,qo,B0,reduceIte,a9]
   exact hN24 _ _ ⟨hS22,by rw [orT hg25]; simp only [B0,reduceIte,a9],f20⟩
  ·simp only [hg25,qf (g:=19),q8,f20,qq,qb,s5,s9,t5,qr,qn,B0,reduceIte,a9]
   refine qg (v:=lst qm f0.Acked) rfl ?_
   simp only [hg25,qf (g:=19),q8,zy,qb,je,qv,qj3,qx,zn,qa,qo,B0,reduceIte,a9]
   exact hN24 _ _ ⟨hS22,by rw [orF hg25]; simp only [B0,reduceIte,a9],f20⟩
 rintro fr26 h29 ⟨hS30,f27,f28⟩
 simp only [t9,a0c]
 simp only [qa,f27,qy,B0,reduceIte,a9]
 refine qu (t:=(v10||(decide ((30:Int)<(t6 f0.Acked:Int))))) (fun hc31=>?_) (fun hc31=>?_)
 ·rw [iteT hc31] at hF12
  simp only [qe,qc,qd,qa,qw,B0,reduceIte,a9]
  have he:=qh hF12
  subst he
  simp only [q9,B0,reduceIte,a9]
  exact rfl
 rw [iteF hc31] at hF12
 simp only [zf,q32,qe,qc,f28,qq,qb,s5,s9,t5,qr,qn,B0,reduceIte,a9]
 refine qg (v:=lst qz f0.Nodes) rfl ?_
 simp only [zy,qb,je,qd,qa,B0,reduceIte,a9]
 obtain ⟨oc34,hX36,hk37⟩:=jy hF12
 simp only [q5m]
 refine xd (σ:=Unit) f0.Nodes (fun i32 x33 _=>qbv f0 i32 x33 ) (fun s fr' h'=>fr' 1 = .ref [.int .i64 f0.Truth.Epoch,.int .i64 f0.Truth.Leader,
   lst cI f0.Truth.InStep,lst qz f0.Nodes,lst qm f0.Acked] 0∧fr' 26=lst qz f0.Nodes∧Sep h' (geL h.length) ([])) hX36 ⟨f28,rfl,
   hS30⟩ (by simp only [B0,reduceIte,a9]) (by simp only [B0,reduceIte,
   a9]) (fun _ _ _ h=>h) rfl rfl (fun _ _ _ _ h=>h) (fun _ _ _ _ h=>h) (fun _ _ _ _ h=>h) (by decide) ?_ ?_
 ·rintro i32 x33 _ fr46 h47 hx51 ⟨f49,f50,hS48⟩ f52 f53 oc35 hF38 hr39 Q40 hN41 hB45 hK42 hR43 hE44
  unfold qbv at hF38
  simp only [q3u,qe,qc,f52,qd,f50,ji,B0,reduceIte,a9]
  refine qg (v := .ref (qz x33) 0) (xg hx51 rfl) ?_
  simp only [qn,B0,reduceIte,a9]
  refine qg (v := .agg [.int .i64 x33.View.Epoch,.int .i64 x33.View.Leader,lst cI x33.View.InStep,lst qm x33.Log,lst cI x33.Known,.int .i64 x33.Told]) rfl ?_
  simp only [kc,B0,reduceIte,a9]
  refine jp hS48 (fun b54 h55 hS56=>?_)
  simp only [qd,zp,B0,reduceIte,a9]
  refine zm (us:=[.int .i64 x33.View.Epoch,.int .i64 x33.View.Leader,lst cI x33.View.InStep,lst qm x33.Log,lst cI x33.Known,
    .int .i64 x33.Told]) rfl (cs':=[.int .i64 x33.View.Epoch,.int .i64 x33.View.Leader,lst cI x33.View.InStep,lst qm x33.Log,lst cI x33.Known,
    .int .i64 x33.Told]) hS56 hW rfl rfl (nle rfl) rfl (fun h58 hS59=>?_)
  simp only [qa,B0,reduceIte,a9]
  refine jc hS59 hW (by simp only [B0,reduceIte,a9]) (fun h60 hS61=>?_)
  simp only [jd,q3z,qe,qc,qn,B0,reduceIte,a9]
  refine qg (v := .agg [.int .i64 x33.View.Epoch,.int .i64 x33.View.Leader,lst cI x33.View.InStep,lst qm x33.Log,lst cI x33.Known,.int .i64 x33.Told]) rfl ?_
  simp only [qd,f49,qq,qb,s5,s9,t5,qr,qn,B0,reduceIte,a9]
  refine qg (v:=lst qz f0.Nodes) rfl ?_
  obtain ⟨v62,hx63,hF64⟩:=qi hF38
  simp only [zy,qb,je,zi,B0,reduceIte,a9]
  refine ju rfl (ql (jo (ql qs (ql qs (ql z8 (ql z8 (ql z8 (ql qs zh))))))) (ql qs
    (ql qs zh))) (qjm (fun b hb=>decide_eq_true hb) x33 (i32:Int) (t6 f0.Nodes:Int) v62 hx63) ?_
  simp only [kh,qb,kz,qd,B0,reduceIte,a9]
  refine jj 8 (fun fr' h'=>Sep h' (geL h.length) ([])∧fr' 48 = .bool ((!v62)||(decide (f0.Truth.Epoch<x33.View.Epoch)))∧fr' 1 = .ref [.int .i64 f0.Truth.Epoch,
    .int .i64 f0.Truth.Leader,lst cI f0.Truth.InStep,lst qz f0.Nodes,
    lst qm f0.Acked] 0∧fr' 3 = .int .i64 (i32:Int)∧fr' 4 = .ref [.int .i64 x33.View.Epoch,.int .i64 x33.View.Leader,lst cI x33.View.InStep,
    lst qm x33.Log,lst cI x33.Known,
    .int .i64 x33.Told] 0∧fr' 26=lst qz f0.Nodes∧fr' 27 = .int .i64 (t6 f0.Nodes:Int)∧fr' 28 = .int .i64 (i32:Int)) (fun Q65 hN66=>?_) ?_
  ·simp only [t8,a0d]
   simp only [qf (g:=40),B0,reduceIte,a9]
   refine zj (t:=(!v62)) (fun hg67=>?_) (fun hg67=>?_)
   ·simp only [hg67,qf (g:=40),jr,qx,qb,zo,qa,qo,B0,reduceIte,a9]
    exact hN66 _ _ ⟨hS61,by rw [orT hg67]; simp only [B0,reduceIte,a9],f49,rfl,rfl,f50,f53,f52⟩
   ·simp only [hg67,qf (g:=40),q8,qq,qb,s5,s9,t5,qr,qn,B0,reduceIte,a9]
    refine qg (v := .int .i64 x33.View.Epoch) rfl ?_
    simp only [hg67,qf (g:=40),q8,f49,qq,qb,s5,s9,t5,qr,qn,B0,reduceIte,a9]
    refine qg (v := .int .i64 f0.Truth.Epoch) rfl ?_
    simp only [hg67,qf (g:=40),q8,qv,qb,qj3,qx,zn,qa,qo,B0,reduceIte,a9]
    exact hN66 _ _ ⟨hS61,by rw [orF hg67]; simp only [B0,reduceIte,a9],f49,rfl,rfl,f50,f53,f52⟩
  rintro fr68 h76 ⟨hS77,f69,f70,f71,f72,f73,f74,f75⟩
  simp only [t9,a0c]
  simp only [f69,qd,B0,reduceIte,a9]
  refine jj 17 (fun fr' h'=>Sep h' (geL h.length) ([])∧fr' 66 = .bool (((!v62)||(decide (f0.Truth.Epoch<x33.View.Epoch)))||((decide
    (x33.View.Epoch=f0.Truth.Epoch))&&(decide (x33.View.Leader≠f0.Truth.Leader))))∧fr' 1 = .ref [.int .i64 f0.Truth.Epoch,.int .i64 f0.Truth.Leader,
    lst cI f0.Truth.InStep,lst qz f0.Nodes,lst qm f0.Acked] 0∧fr' 3 = .int .i64 (i32:Int)∧fr' 4 = .ref [.int .i64 x33.View.Epoch,
    .int .i64 x33.View.Leader,lst cI x33.View.InStep,lst qm x33.Log,lst cI x33.Known,
    .int .i64 x33.Told] 0∧fr' 26=lst qz f0.Nodes∧fr' 27 = .int .i64 (t6 f0.Nodes:Int)∧fr' 28 = .int .i64 (i32:Int)) (fun Q78 hN79=>?_) ?_
  ·simp only [t8,a0d]
   simp only [qf (g:=49),B0,reduceIte,a9]
   refine zj (t:=((!v62)||(decide (f0.Truth.Epoch<x33.View.Epoch)))) (fun hg80=>?_) (fun hg80=>?_)
   ·simp only [hg80,qf (g:=49),jr,qf (g:=57),qbp,qx,qb,zo,qa,qo,B0,reduceIte,a9]
    exact hN79 _ _ ⟨hS77,by rw [orT hg80]; simp only [B0,reduceIte,a9],f70,f71,f72,f73,f74,f75⟩
   ·simp only [hg80,qf (g:=49),q8,f72,qq,qb,s5,s9,t5,qr,qn,B0,reduceIte,a9]
    refine qg (v := .int .i64 x33.View.Epoch) rfl ?_
    simp only [hg80,qf (g:=49),q8,f70,qq,qb,s5,s9,t5,qr,qn,B0,reduceIte,a9]
    refine qg (v := .int .i64 f0.Truth.Epoch) rfl ?_
    simp only [hg80,qf (g:=49),q8,qv,qb,k7,qd,B0,reduceIte,a9]
    refine jj 8 (fun fr' h'=>Sep h' (geL h.length) ([])∧fr' 65 = .bool ((decide (x33.View.Epoch=f0.Truth.Epoch))&&(decide
      (x33.View.Leader≠f0.Truth.Leader)))∧fr' 1 = .ref [.int .i64 f0.Truth.Epoch,.int .i64 f0.Truth.Leader,lst cI f0.Truth.InStep,lst qz f0.Nodes,
      lst qm f0.Acked] 0∧fr' 3 = .int .i64 (i32:Int)∧fr' 4 = .ref [.int .i64 x33.View.Epoch,.int .i64 x33.View.Leader,lst cI x33.View.InStep,
      lst qm x33.Log,lst cI x33.Known,
      .int .i64 x33.Told] 0∧fr' 26=lst qz f0.Nodes∧fr' 27 = .int .i64 (t6 f0.Nodes:Int)∧fr' 28 = .int .i64 (i32:Int)∧fr' 49 = .bool
      ((!v62)||(decide (f0.Truth.Epoch<x33.View.Epoch)))) (fun Q81 hN82=>?_) ?_
    ·simp only [t8,a0d]
     simp only [qf (g:=57),B0,reduceIte,a9]
     refine zj (t:=(decide (x33.View.Epoch=f0.Truth.Epoch))) (fun hg83=>?_) (fun hg83=>?_)
     ·simp only [hg83,qf (g:=57),zl,f72,qq,qb,s5,s9,t5,qr,qn,B0,reduceIte,a9]
      refine qg (v := .int .i64 x33.View.Leader) rfl ?_
      simp only [hg83,qf (g:=57),zl,f70,qq,qb,s5,s9,t5,qr,qn,B0,reduceIte,a9]
      refine qg (v := .int .i64 f0.Truth.Leader) rfl ?_
      simp only [hg83,qf (g:=57),zl,qv,qb,ya,hg80,qf (g:=49),q8,qx,zo,qa,qo,B0,
        reduceIte,a9]
      exact hN82 _ _ ⟨hS77,by rw [yk hg83]; simp only [B0,reduceIte,a9],f70,f71,f72,f73,f74,f75,by simp only [hg80,B0,reduceIte,a9]⟩
     ·simp only [hg83,qf (g:=57),jh,hg80,qf (g:=49),q8,qx,qb,zn,qa,qo,B0,reduceIte,
       a9]
      exact hN82 _ _ ⟨hS77,by rw [yj hg83]; simp only [B0,reduceIte,a9],f70,f71,f72,f73,f74,f75,by simp only [hg80,B0,reduceIte,a9]⟩
    rintro fr84 h93 ⟨hS94,f85,f86,f87,f88,f89,f90,f91,f92⟩
    simp only [t9,a0c]
    simp only [f92,hg80,qx,qb,zn,f85,qa,qo,B0,reduceIte,a9]
    exact hN79 _ _ ⟨hS94,by rw [orF hg80]; simp only [B0,reduceIte,a9],f86,f87,f88,f89,f90,f91⟩
  rintro fr95 h103 ⟨hS104,f96,f97,f98,f99,f100,f101,f102⟩
  simp only [t9,a0c]
  simp only [qa,f96,qy,B0,reduceIte,a9]
  refine qu (t:=(((!v62)||(decide (f0.Truth.Epoch<x33.View.Epoch)))||((decide (x33.View.Epoch=f0.Truth.Epoch))&&(decide
    (x33.View.Leader≠f0.Truth.Leader))))) (fun hc105=>?_) (fun hc105=>?_)
  ·rw [iteT hc105] at hF64
   simp only [qe,qc,qd,qa,qw,B0,reduceIte,a9]
   have e106:=qh hF64
   subst e106
   have ho107:=hr39 _ rfl
   have hk108:=hk37
   rw [ho107] at hk108
   dsimp only [jnO] at hk108
   apply hR43
   have he:=qh hk108
   subst he
   simp only [q9,B0,reduceIte,a9]
   exact rfl
  rw [iteF hc105] at hF64
  simp only [zf,q7r,qe,js,f97,z9,qk,s5,s9,t5,qr,zu,B0,reduceIte,a9]
  refine qt (v:=lst cI f0.Truth.InStep) rfl ?_
  obtain ⟨v109,hx110,hF111⟩:=qi hF64
  simp only [f98,zv,qk,y9,B0,reduceIte,a9]
  refine qc3 rfl (ql z8 (ql qs zh)) (qb3 (fun b hb=>decide_eq_true hb) f0.Truth.InStep (i32:Int) v109 hx110) ?_
  simp only [zv,qk,B0,reduceIte,a9]
  simp only [qp (g:=72),B0,reduceIte,a9]
  refine jq (t:=v109) (fun hg112=>?_) (fun hg112=>?_)
  ·rw [iteT hg112] at hF111
   simp only [hg112,qp (g:=72),zk,f99,z9,qk,s5,s9,t5,qr,zu,B0,reduceIte,a9]
   refine qt (v:=lst qm x33.Log) rfl ?_
   simp only [hg112,qp (g:=72),zk,qd8,qk,je,f97,z9,s5,s9,t5,qr,zu,B0,reduceIte,
     a9]
   refine qt (v:=lst qm f0.Acked) rfl ?_
   simp only [hg112,qp (g:=72),zk,qd8,qk,je,yg,k6,zv,B0,reduceIte,a9]
   simp only [qp (g:=80),B0,reduceIte,a9]
   refine jq (t:=(decide ((t6 x33.Log:Int)<(t6 f0.Acked:Int)))) (fun hg113=>?_) (fun hg113=>?_)
   ·rw [iteT hg113] at hF111
    simp only [hg113,qp (g:=80),qaj,hg112,qp (g:=72),zk,jf,qk,zo,zc,qy,qnv,qe,
      qc,qd,qa,qw,B0,reduceIte,a9]
    have e114:=qh hF111
    subst e114
    have ho115:=hr39 _ rfl
    have hk116:=hk37
    rw [ho115] at hk116
    dsimp only [jnO] at hk116
    apply hR43
    have he:=qh hk116
    subst he
    simp only [q9,B0,reduceIte,a9]
    exact rfl
   rw [iteF hg113] at hF111
   simp only [hg113,qp (g:=80),jg,f99,z9,qk,s5,s9,t5,qr,zu,B0,reduceIte,a9]
   refine qt (v:=lst qm x33.Log) rfl ?_
   simp only [hg113,qp (g:=80),jg,f97,z9,qk,s5,s9,t5,qr,zu,B0,reduceIte,a9]
   refine qt (v:=lst qm f0.Acked) rfl ?_
   obtain ⟨l117,hx118,hF119⟩:=qi hF111
   simp only [hg113,qp (g:=80),jg,qd8,qk,je,qm3,a02,a1k,B0,reduceIte,a9]
   refine qt (qqk hx118 (fun _=>rfl)) ?_
   simp only [hg113,qp (g:=80),jg,f97,z9,qk,s5,s9,t5,qr,zu,B0,reduceIte,a9]
   refine qt (v:=lst qm f0.Acked) rfl ?_
   obtain ⟨v120,hx121,hF122⟩:=qi hF119
   simp only [hg113,qp (g:=80),jg,y9,B0,reduceIte,a9]
   refine qc3 rfl (ql z8 (ql z8 zh)) (qkb (fun b hb=>decide_eq_true hb) l117 f0.Acked v120 hx121) ?_
   simp only [hg113,qp (g:=80),jg,qeu,qk,kz,hg112,qp (g:=72),zk,jf,zn,zo,zc,qy,
     B0,reduceIte,a9]
   refine qu (t:=(!v120)) (fun hc123=>?_) (fun hc123=>?_)
   ·rw [iteT hc123] at hF122
    simp only [qe,qc,qd,qa,qw,B0,reduceIte,a9]
    have e124:=qh hF122
    subst e124
    have ho125:=hr39 _ rfl
    have hk126:=hk37
    rw [ho125] at hk126
    dsimp only [jnO] at hk126
    apply hR43
    have he:=qh hk126
    subst he
    simp only [q9,B0,reduceIte,a9]
    exact rfl
   rw [iteF hc123] at hF122
   simp only [zf,qo,B0,reduceIte,a9]
   have e127:=qh hF122
   exact hN41 _ _ _ e127.symm ⟨f97,f100,hS104⟩ (f102) (f101)
  rw [iteF hg112] at hF111
  simp only [hg112,qp (g:=72),ku,qp (g:=80),qsd,jf,qk,zn,zc,qy,qcl,zf,qo,B0,
    reduceIte,a9]
  have e128:=qh hF111
  exact hN41 _ _ _ e128.symm ⟨f97,f100,hS104⟩ (f102) (f101)
 rintro _ fr130 h131 rfl ⟨f133,f134,hS132⟩
 dsimp only [jnO] at hk37
 unfold qgo at hk37
 simp only [qe,qc,qd,qa,qw,B0,reduceIte,a9]
 have he:=qh hk37
 subst he
 simp only [q9,B0,reduceIte,a9]
 exact rfl
theorem qj6 {W:Nat→Bool}{h:Heap} (hW:∀ b,
  (geL h.length) b→W b=true) (l4:Cluster) (r:Cluster) (hF:qay l4=some r) : Ret E W 90 [.agg [.int .i64 l4.Truth.Epoch,.int .i64 l4.Truth.Leader,
  lst cI l4.Truth.InStep,lst qz l4.Nodes,lst qm l4.Acked]] h (fun v h'=>∃ n9 l9 p9 m0 o8 n7,v = .agg [.int .i64 r.Truth.Epoch,
  .int .i64 r.Truth.Leader,n9,p9,
  o8]∧SlF cI 1 3 n9 r.Truth.InStep l9∧SlN Node.R 6 68 p9 r.Nodes m0∧SlF qm 2 92 o8 r.Acked n7∧Sep h' (geL h.length) (l9++(m0 ++
  (n7++([]))))):=by
 refine Ret.of (fn:=x90) rfl (Run.of ?_)
 unfold qay at hF
 have zf0:zb [.agg [.int .i64 l4.Truth.Epoch,.int .i64 l4.Truth.Leader,lst cI l4.Truth.InStep,lst qz l4.Nodes,
   lst qm l4.Acked]] 0 = .agg [.int .i64 l4.Truth.Epoch,.int .i64 l4.Truth.Leader,lst cI l4.Truth.InStep,lst qz l4.Nodes,lst qm l4.Acked]:=rfl
 generalize zb [.agg [.int .i64 l4.Truth.Epoch,.int .i64 l4.Truth.Leader,lst cI l4.Truth.InStep,lst qz l4.Nodes,lst qm l4.Acked]]=fr0 at zf0 ⊢
 have hS:Sep h (geL h.length) []:=a1q h
 simp only [x90,qe,qc,j7,zf0,B0,reduceIte,a9]
 refine jm (cs:=[.int .i64 l4.Truth.Epoch,.int .i64 l4.Truth.Leader,lst cI l4.Truth.InStep,lst qz l4.Nodes,
   lst qm l4.Acked]) hS rfl rfl rfl (fun b1 h2 hS3=>?_)
 simp only [kc,B0,reduceIte,a9]
 refine jp hS3 (fun b5 h6 hS7=>?_)
 simp only [qa,B0,reduceIte,a9]
 refine jc (a0l hS7) hW (by simp only [B0,reduceIte,a9]) (fun h9 hS10=>?_)
 simp only [jd,q3c,qe,js,qh6,evp,B0,reduceIte,a9]
 refine qec (n:=2) (f:=qm) ([] : List Row) hS10 rfl rfl (fun v11 c12 h13 hv14 hS15=>?_)
 simp only [qpp,B0,reduceIte,a9]
 refine qjj hS15 (fun b17 h18 hS19=>?_)
 simp only [z9,qk,s5,s9,t5,qr,zu,B0,reduceIte,a9]
 refine qt (v := .agg [.int .i64 l4.Truth.Epoch,.int .i64 l4.Truth.Leader,lst cI l4.Truth.InStep]) rfl ?_
 obtain ⟨v21,hx22,hF23⟩:=qi hF
 simp only [uf,B0,reduceIte,a9]
 refine qik rfl hS19 (ql (jo (ql qs (ql qs (ql z8 zh)))) zh) (qc0 (fun b hb=>decide_eq_true hb) l4.Truth v21 hx22) ?_
 rintro _ h28 ⟨v24,c25,rfl,hv26,hS29⟩
 refine ⟨_,qdc (qj rfl (qj rfl (qj (SlF.free1 hv26) zq))),hS29,(j9 (SlF.pf hv26 (fun _=>rfl)) wl),fun h30 hS31=>?_⟩
 have hS32:Sep h30 (geL h.length) (c25++([Blk1 b17 [.int .i64 0,.int .i64 0,.nil,.nil,.nil] 28]++(c12++([Blk1 b5 [.int .i64 0,.int .i64 0,.nil,.nil,
   .nil] 28]++([]))))):=by simpa only [a0f,a0z] using hS31
 simp only [qb0,qk,s5,s9,t5,qr,uw,qcs,B0,reduceIte,a9]
 refine qt (v:=lst qm l4.Acked) rfl ?_
 simp only [qf8,B0,reduceIte,a9]
 obtain ⟨l33,hx34,hF35⟩:=qi hF23
 refine qbl (f:=qm) hv14 (a0k hS32) hW (fun _=>rfl) (fun _=>rfl) (qah (fun _=>rfl)) hx34 (fun v36 c37 h38 hv39 hS40=>?_)
 simp only [qen,evp,B0,reduceIte,a9]
 refine qt (v := .agg [.int .i64 v21.Epoch,.int .i64 v21.Leader,v24,.nil,v36]) (qai (qag (us:=[.int .i64 v21.Epoch,.int .i64 v21.Leader,
   v24]) (vs:=[.int .i64 v21.Epoch,.int .i64 v21.Leader,v24,.nil,
   .nil]) rfl rfl (nle rfl) (qj rfl (qj rfl (qj (a0g hv26) zq))) rfl (qag (us:=[v36]) (vs:=[.int .i64 v21.Epoch,.int .i64 v21.Leader,v24,.nil,
   v36]) (j8 (a0g hv39)) rfl (nle rfl) (qj (a0g hv39) zq) rfl qed))) ?_
 simp only [qds,B0,reduceIte,a9]
 refine qcg (us:=[.int .i64 v21.Epoch,.int .i64 v21.Leader,v24,.nil,v36]) rfl (cs':=[.int .i64 v21.Epoch,.int .i64 v21.Leader,v24,.nil,
   v36]) (a0k hS40) hW rfl (qj rfl (qj rfl (qj (a0g hv26) (qj rfl (qj (a0g hv39) zq))))) (nle rfl) rfl (fun h42 hS43=>?_)
 simp only [zc,q33,qe,qc,qq,qb,s5,s9,t5,qr,qn,B0,reduceIte,a9]
 refine qg (v:=lst qz l4.Nodes) rfl ?_
 simp only [zy,qb,je,qd,qa,B0,reduceIte,a9]
 obtain ⟨oc56,hX58,hk59⟩:=jy hF35
 simp only [q3a]
 refine xd (σ:=Cluster) l4.Nodes (fun i54 x55 s149=>qa8 v21 l33 i54 x55 s149) (fun s fr' h'=>∃ v51 c52,
   fr' 2 = .ptr b5 0∧fr' 3 = .ptr b17 0∧fr' 15=lst qz l4.Nodes∧SlN Node.R 6 68 v51 s.Nodes c52∧Sep h' (geL h.length) ([Blk1 b5 [.int .i64 0,.int .i64 0,
   .nil,.nil,.nil] 28]++([Blk1 b17 [.int .i64 s.Truth.Epoch,.int .i64 s.Truth.Leader,v24,v51,v36] 28]++(c25++(c52++(c37++([]))))))) hX58 ⟨.nil,[],rfl,rfl,
   rfl,SlN.nil,((a0e (a0k (a0k (a0l hS43)))) : Sep _ (geL h.length) ([Blk1 b5 [.int .i64 0,.int .i64 0,.nil,.nil,.nil] 28]++([Blk1 b17 [.int .i64 v21.Epoch,
   .int .i64 v21.Leader,v24,.nil,v36] 28]++(c25++(c37++([]))))))⟩ (by simp only [B0,reduceIte,a9]) (by simp only [B0,reduceIte,
   a9]) (fun _ _ _ h=>h) rfl rfl (fun _ _ _ _ h=>h) (fun _ _ _ _ h=>h) (fun _ _ _ _ h=>h) (by decide) ?_ ?_
 ·rintro i54 x55 s49 fr68 h69 hx74 ⟨v51,c52,f71,f72,f73,hv53,hS70⟩ f75 f76 oc57 hF60 hr61 Q62 hN63 hB67 hK64 hR65 hE66
  unfold qa8 at hF60
  simp only [q7e,qe,qc,f73,f75,ji,B0,reduceIte,a9]
  refine qg (v := .ref (qz x55) 0) (xg hx74 rfl) ?_
  simp only [qn,B0,reduceIte,a9]
  refine qg (v := .agg [.int .i64 x55.View.Epoch,.int .i64 x55.View.Leader,lst cI x55.View.InStep,lst qm x55.Log,lst cI x55.Known,.int .i64 x55.Told]) rfl ?_
  simp only [kc,B0,reduceIte,a9]
  refine jp hS70 (fun b77 h78 hS79=>?_)
  simp only [zp,B0,reduceIte,a9]
  refine zm (us:=[.int .i64 x55.View.Epoch,.int .i64 x55.View.Leader,lst cI x55.View.InStep,lst qm x55.Log,lst cI x55.Known,
    .int .i64 x55.Told]) rfl (cs':=[.int .i64 x55.View.Epoch,.int .i64 x55.View.Leader,lst cI x55.View.InStep,lst qm x55.Log,lst cI x55.Known,
    .int .i64 x55.Told]) hS79 hW rfl rfl (nle rfl) rfl (fun h81 hS82=>?_)
  simp only [qa,B0,reduceIte,a9]
  refine jc hS82 hW (by simp only [B0,reduceIte,a9]) (fun h83 hS84=>?_)
  simp only [jd,q4s,js,z9,qk,s5,s9,t5,qr,zu,B0,reduceIte,a9]
  refine qt (v := .agg [.int .i64 x55.View.Epoch,.int .i64 x55.View.Leader,lst cI x55.View.InStep]) rfl ?_
  simp only [qh6,evp,B0,reduceIte,a9]
  refine qec (n:=2) (f:=qm) ([] : List Row) hS84 rfl rfl (fun v85 c86 h87 hv88 hS89=>?_)
  simp only [qb0,qk,s5,s9,t5,qr,uw,qcs,B0,reduceIte,a9]
  refine qt (v:=lst qm x55.Log) rfl ?_
  simp only [qh6,evp,B0,reduceIte,a9]
  refine qec (n:=1) (f:=cI) ([] : List Int) hS89 rfl rfl (fun v91 c92 h93 hv94 hS95=>?_)
  simp only [qb0,qk,s5,s9,t5,qr,uw,qcs,B0,reduceIte,a9]
  refine qt (v:=lst cI x55.Known) rfl ?_
  simp only [qb0,qk,s5,s9,t5,qr,uw,qcs,B0,reduceIte,a9]
  refine qt (v := .int .i64 x55.Told) rfl ?_
  simp only [f72,qb0,qk,s5,s9,t5,zd,uw,B0,reduceIte,a9]
  refine qcy (Sep.ltk (a0l hS84)) ?_
  refine qt (v:=v51) ((jt (a0r _ _ _ (a0e hS95))).trans rfl) ?_
  obtain ⟨v97,hx98,hF99⟩:=qi hF60
  simp only [uf,B0,reduceIte,a9]
  refine qik rfl hS95 (ql (jo (ql qs (ql qs (ql z8 zh)))) zh) (qc0 (fun b hb=>decide_eq_true hb) x55.View v97 hx98) ?_
  rintro _ h104 ⟨v100,c101,rfl,hv102,hS105⟩
  refine ⟨_,qdc (qj rfl (qj rfl (qj (SlF.free1 hv102) zq))),hS105,(j9 (SlF.pf hv102 (fun _=>rfl)) wl),fun h106 hS107=>?_⟩
  have hS108:Sep h106 (geL h.length) (c101++(c92++(c86++([Blk1 b5 [.int .i64 0,.int .i64 0,.nil,.nil,.nil] 28]++([Blk1 b17 [.int .i64 s49.Truth.Epoch,
    .int .i64 s49.Truth.Leader,v24,v51,v36] 28]++(c25++(c52++(c37++([]))))))))):=by simpa only [a0f,a0z] using hS107
  simp only [qku,B0,reduceIte,a9]
  obtain ⟨l109,hx110,hF111⟩:=qi hF99
  have hq112:=nwq (fun z hz=>Sep.dj (a0e (a0e hS108)) qfy (a31 hv88 z hz))
  have hq113:=nwq (fun z hz=>Sep.dj (a0e (a0i hS108)) qfy (a31 hv88 z hz))
  refine qog (qp9 (fun z hz=>Sep.dj (a0e (a0i hS108)) qfy (a31 hv88 z hz)) ql8) ?_
  refine qbl (f:=qm) hv88 (a0k hS108) hW (fun _=>rfl) (fun _=>rfl) (qah (fun _=>rfl)) hx110 (fun v114 c115 h116 hv117 hS118=>?_)
  simp only [qku,B0,reduceIte,a9]
  obtain ⟨l120,hx121,hF122⟩:=qi hF111
  have hq123:=nwq (fun z hz=>Sep.dj (a0e (a0e hS118)) qfy (a31 hv94 z hz))
  have hq124:=nwq (fun z hz=>Sep.dj (a0e (a0i hS118)) qfy (a31 hv94 z hz))
  refine qog (qp9 (fun z hz=>Sep.dj (a0e (a0i hS118)) qfy (a31 hv94 z hz)) ql8) ?_
  refine qbl (f:=cI) hv94 (a0k hS118) hW (fun _=>rfl) (fun _=>rfl) (qah (fun _=>rfl)) hx121 (fun v125 c126 h127 hv128 hS129=>?_)
  simp only [qen,evp,B0,reduceIte,a9]
  refine qt (v := .agg [.int .i64 v97.Epoch,.int .i64 v97.Leader,v100,v114,v125,.int .i64 x55.Told]) (qai (qag (us:=[.int .i64 v97.Epoch,
    .int .i64 v97.Leader,v100]) (vs:=[.int .i64 v97.Epoch,.int .i64 v97.Leader,v100,.nil,.nil,
    .int .i64 0]) rfl rfl (nle rfl) (qj rfl (qj rfl (qj (a0g hv102) zq))) rfl (qag (us:=[v114]) (vs:=[.int .i64 v97.Epoch,.int .i64 v97.Leader,v100,
    v114,.nil,.int .i64 0]) (j8 (a0g hv117)) rfl (nle rfl) (qj (a0g hv117) zq) rfl (qag (us:=[v125]) (vs:=[.int .i64 v97.Epoch,
    .int .i64 v97.Leader,v100,v114,v125,
    .int .i64 0]) (j8 (a0g hv128)) rfl (nle rfl) (qj (a0g hv128) zq) rfl (qag (us:=[.int .i64 x55.Told]) (vs:=[.int .i64 v97.Epoch,
    .int .i64 v97.Leader,v100,v114,v125,.int .i64 x55.Told]) rfl rfl (nle rfl) rfl rfl qed))))) ?_
  simp only [qdb,evp,B0,reduceIte,a9]
  refine qgl (R:=Node.R) (n:=6) (cs:=[.int .i64 v97.Epoch,.int .i64 v97.Leader,v100,v114,v125,
    .int .i64 x55.Told]) (os:=c101++(c115++(c126))) (Sep.bi3 (c1:=c101) (c2:=c115) (c3:=c126) (a0k (a0l hS129))) (qag (us:=[.int .i64 v97.Epoch,
    .int .i64 v97.Leader,v100,v114,v125,.int .i64 x55.Told]) (vs:=[.int .i64 v97.Epoch,.int .i64 v97.Leader,v100,v114,v125,
    .int .i64 x55.Told]) rfl rfl (nle rfl) (qj rfl (qj rfl (qj (a0g hv102) (qj (a0g hv117) (qj (a0g hv128) (qj rfl zq)))))) rfl qed)
    (Node.RI (x:=(Node.mk v97 l109 l120 x55.Told)) hv102 hv117 hv128) rfl (fun v131 c132 h133 hv134 hS135=>?_)
  simp only [qf8,B0,reduceIte,a9]
  obtain ⟨l137,hx138,hF139⟩:=qi hF122
  refine qi6 (R:=Node.R) (c:=c52) hv53 hv134 (a0i hS135) hW Node.RO.len Node.RO.one hx138 (fun v140 c141 h142 hv143 hS144=>?_)
  simp only [f72,z9,qk,s5,s9,t5,zd,qds,B0,reduceIte,a9]
  refine qcg (us:=[v140]) (j8 (a10 hv143)) (cs':=[.int .i64 s49.Truth.Epoch,.int .i64 s49.Truth.Leader,v24,v140,
    v36]) (a0k hS144) hW rfl (qj (a10 hv143) zq) (nle rfl) rfl (fun h146 hS147=>?_)
  simp only [zc,qo,B0,reduceIte,a9]
  have e148:=qh hF139
  exact hN63 _ _ _ e148.symm ⟨v140,c141,f71,f72,f73,hv143,(a0i (a0e (a0i (a0k (a0i hS147)))))⟩ (f75) (f76)
 rintro s150 fr155 h156 rfl ⟨v152,c153,f158,f159,f160,hv154,hS157⟩
 dsimp only [jnO] at hk59
 unfold qfb at hk59
 simp only [qe,qc,f159,qn,B0,reduceIte,a9]
 refine qg (v := .agg [.int .i64 s150.Truth.Epoch,.int .i64 s150.Truth.Leader,v24,v152,v36]) ((zr (a0r _ _ _ (a0l hS157))).trans rfl) ?_
 simp only [f158,zp,B0,reduceIte,a9]
 refine zm (us:=[.int .i64 s150.Truth.Epoch,.int .i64 s150.Truth.Leader,v24,v152,v36]) rfl (cs':=[.int .i64 s150.Truth.Epoch,.int .i64 s150.Truth.Leader,v24,
   v152,v36]) hS157 hW rfl (qj rfl (qj rfl (qj (a0g hv26) (qj (a10 hv154) (qj (a0g hv39) zq))))) (nle rfl) rfl (fun h161 hS162=>?_)
 simp only [qa,qw,B0,reduceIte,a9]
 have he:=qh hk59
 subst he
 refine xa (bb:=b5) (oo:=0) (v := .agg [.int .i64 s150.Truth.Epoch,.int .i64 s150.Truth.Leader,v24,v152,v36]) (by simp only [f158,B0,reduceIte,
   a9]) ((zr (a0r _ _ _ hS162)).trans rfl) ?_
 exact ⟨v24,c25,v152,c153,v36,c37,by first | trivial | rfl,hv26,hv154,hv39,(a0k (a0k (a0k (a0s ((a0s (hS162)))))))⟩
theorem qj1 {W:Nat→Bool}{h:Heap} (hW:∀ b,
  (geL h.length) b→W b=true) (s1_0:List Int) (s2_1:List Int) (r:Bool) (hF:qar s1_0 s2_1=some r) : Ret E W 83 [lst cI s1_0,
  lst cI s2_1] h (fun v h'=>cut h.length h' E.sz false 9 v=some (.bool r)):=by
 refine Ret.of (fn:=x83) rfl (Run.of ?_)
 unfold qar at hF
 have zf0:zb [lst cI s1_0,lst cI s2_1] 0=lst cI s1_0:=rfl
 have zf1:zb [lst cI s1_0,lst cI s2_1] 1=lst cI s2_1:=rfl
 generalize zb [lst cI s1_0,lst cI s2_1]=fr0 at zf0 zf1 ⊢
 have hS:Sep h (geL h.length) []:=a1q h
 simp only [x83,qe,qc,qd,qa,q7j,zf0,zy,qb,je,zf1,qv,ya,qy,B0,reduceIte,a9]
 refine qu (t:=(decide ((t6 s1_0:Int)≠(t6 s2_1:Int)))) (fun hc1=>?_) (fun hc1=>?_)
 ·rw [iteT hc1] at hF
  simp only [qe,qc,qd,qa,qw,B0,reduceIte,a9]
  have he:=qh hF
  subst he
  simp only [q9,B0,reduceIte,a9]
  exact rfl
 rw [iteF hc1] at hF
 simp only [zf,q5o,qe,qc,zf0,qd,zy,qb,je,qa,B0,reduceIte,a9]
 obtain ⟨oc4,hX6,hk7⟩:=jy hF
 simp only [q3y]
 refine xd (σ:=Unit) s1_0 (fun i2 x3 _=>qa4 s2_1 i2 x3 ) (fun s fr' h'=>fr' 0=lst cI s1_0∧fr' 1=lst cI s2_1∧Sep h' (geL h.length)
   ([])) hX6 ⟨zf0,zf1,hS⟩ (by simp only [B0,reduceIte,a9]) (by simp only [B0,reduceIte,
   a9]) (fun _ _ _ h=>h) rfl rfl (fun _ _ _ _ h=>h) (fun _ _ _ _ h=>h) (fun _ _ _ _ h=>h) (by decide) ?_ ?_
 ·rintro i2 x3 _ fr16 h17 hx21 ⟨f19,f20,hS18⟩ f22 f23 oc5 hF8 hr9 Q10 hN11 hB15 hK12 hR13 hE14
  unfold qa4 at hF8
  simp only [q35,qe,qc,f22,qd,qa,q44,js,f19,zv,qk,yv,B0,reduceIte,a9]
  refine qt (v := .ref (cI x3) 0) (xg hx21 rfl) ?_
  simp only [zu,B0,reduceIte,a9]
  refine qt (v := .int .i64 x3) rfl ?_
  obtain ⟨x24,hx25,hF26⟩:=qi hF8
  simp only [f20,zv,qk,yv,B0,reduceIte,a9]
  refine qt (v := .ref (cI x24) 0) (kw hx25 rfl) ?_
  simp only [zu,B0,reduceIte,a9]
  refine qt (v := .int .i64 x24) rfl ?_
  simp only [yg,qk,ya,zc,qy,B0,reduceIte,a9]
  refine qu (t:=(decide (x3≠x24))) (fun hc27=>?_) (fun hc27=>?_)
  ·rw [iteT hc27] at hF26
   simp only [qe,qc,qd,qa,qw,B0,reduceIte,a9]
   have e28:=qh hF26
   subst e28
   have ho29:=hr9 _ rfl
   have hk30:=hk7
   rw [ho29] at hk30
   dsimp only [jnO] at hk30
   apply hR13
   have he:=qh hk30
   subst he
   simp only [q9,B0,reduceIte,a9]
   exact rfl
  rw [iteF hc27] at hF26
  simp only [zf,qo,B0,reduceIte,a9]
  have e31:=qh hF26
  exact hN11 _ _ _ e31.symm ⟨f19,f20,hS18⟩ (f22) (f23)
 rintro _ fr33 h34 rfl ⟨f36,f37,hS35⟩
 dsimp only [jnO] at hk7
 unfold qfa at hk7
 simp only [qe,qc,qd,qa,qw,B0,reduceIte,a9]
 have he:=qh hk7
 subst he
 simp only [q9,B0,reduceIte,a9]
 exact rfl
theorem ql9 {W:Nat→Bool}{h:Heap} (hW:∀ b,
  (geL h.length) b→W b=true) (i0:View) (i6:View) (r:Bool) (hF:qcm i0 i6=some r) : Ret E W 62 [.agg [.int .i64 i0.Epoch,.int .i64 i0.Leader,
  lst cI i0.InStep],.agg [.int .i64 i6.Epoch,.int .i64 i6.Leader,lst cI i6.InStep]] h (fun v h'=>cut h.length h' E.sz false 9 v=some (.bool r)):=by
 refine Ret.of (fn:=x62) rfl (Run.of ?_)
 unfold qcm at hF
 have zf0:zb [.agg [.int .i64 i0.Epoch,.int .i64 i0.Leader,lst cI i0.InStep],.agg [.int .i64 i6.Epoch,.int .i64 i6.Leader,
   lst cI i6.InStep]] 0 = .agg [.int .i64 i0.Epoch,.int .i64 i0.Leader,lst cI i0.InStep]:=rfl
 have zf1:zb [.agg [.int .i64 i0.Epoch,.int .i64 i0.Leader,lst cI i0.InStep],.agg [.int .i64 i6.Epoch,.int .i64 i6.Leader,
   lst cI i6.InStep]] 1 = .agg [.int .i64 i6.Epoch,.int .i64 i6.Leader,lst cI i6.InStep]:=rfl
 generalize zb [.agg [.int .i64 i0.Epoch,.int .i64 i0.Leader,lst cI i0.InStep],.agg [.int .i64 i6.Epoch,.int .i64 i6.Leader,lst cI i6.InStep]]=fr0 at zf0 zf1 ⊢
 have hS:Sep h (geL h.length) []:=a1q h
 simp only [x62,qe,qc,j7,zf0,B0,reduceIte,a9]
 refine jm (cs:=[.int .i64 i0.Epoch,.int .i64 i0.Leader,lst cI i0.InStep]) hS rfl rfl rfl (fun b1 h2 hS3=>?_)
 simp only [j7,zf1,B0,reduceIte,a9]
 refine jm (cs:=[.int .i64 i6.Epoch,.int .i64 i6.Leader,lst cI i6.InStep]) hS3 rfl rfl rfl (fun b5 h6 hS7=>?_)
 simp only [qd,qa,B0,reduceIte,a9]
 refine jc (a0l hS7) hW (by simp only [B0,reduceIte,a9]) (fun h9 hS10=>?_)
 refine jc hS10 hW (by simp only [B0,reduceIte,a9]) (fun h11 hS12=>?_)
 simp only [jd,q30,qe,qc,qq,qb,s5,s9,t5,qr,qn,B0,reduceIte,a9]
 refine qg (v := .int .i64 i0.Epoch) rfl ?_
 simp only [qq,qb,s5,s9,t5,qr,qn,B0,reduceIte,a9]
 refine qg (v := .int .i64 i6.Epoch) rfl ?_
 simp only [qv,qb,k7,qd,B0,reduceIte,a9]
 refine jj 6 (fun fr' h'=>Sep h' (geL h.length) ([])∧fr' 16 = .bool ((decide (i0.Epoch=i6.Epoch))&&(decide
   (i0.Leader=i6.Leader)))∧fr' 2 = .ref [.int .i64 i0.Epoch,.int .i64 i0.Leader,lst cI i0.InStep] 0∧fr' 3 = .ref [.int .i64 i6.Epoch,.int .i64 i6.Leader,
   lst cI i6.InStep] 0) (fun Q13 hN14=>?_) ?_
 ·simp only [t8,a0d]
  simp only [qf (g:=10),B0,reduceIte,a9]
  refine zj (t:=(decide (i0.Epoch=i6.Epoch))) (fun hg15=>?_) (fun hg15=>?_)
  ·simp only [hg15,qf (g:=10),zl,qq,qb,s5,s9,t5,qr,qn,B0,reduceIte,a9]
   refine qg (v := .int .i64 i0.Leader) rfl ?_
   simp only [hg15,qf (g:=10),zl,qq,qb,s5,s9,t5,qr,qn,B0,reduceIte,a9]
   refine qg (v := .int .i64 i6.Leader) rfl ?_
   simp only [hg15,qf (g:=10),zl,qv,qb,k7,qx,zo,qa,qo,B0,reduceIte,a9]
   exact hN14 _ _ ⟨hS12,by rw [yk hg15]; simp only [B0,reduceIte,a9],rfl,rfl⟩
  ·simp only [hg15,qf (g:=10),jh,qx,qb,zn,qa,qo,B0,reduceIte,a9]
   exact hN14 _ _ ⟨hS12,by rw [yj hg15]; simp only [B0,reduceIte,a9],rfl,rfl⟩
 rintro fr16 h20 ⟨hS21,f17,f18,f19⟩
 simp only [t9,a0c]
 simp only [f17,qd,B0,reduceIte,a9]
 obtain ⟨v25,hx26,hF27⟩:=qi hF
 refine jj 6 (fun fr' h'=>Sep h' (geL h.length) ([])∧fr' 23 = .bool v25) (fun Q22 hN23=>?_) ?_
 ·simp only [t8,a0d]
  simp only [qf (g:=17),B0,reduceIte,a9]
  refine zj (t:=((decide (i0.Epoch=i6.Epoch))&&(decide (i0.Leader=i6.Leader)))) (fun hg24=>?_) (fun hg24=>?_)
  ·rw [iteT hg24] at hx26
   simp only [hg24,qf (g:=17),zl,f18,qq,qb,s5,s9,t5,qr,qn,B0,reduceIte,a9]
   refine qg (v:=lst cI i0.InStep) rfl ?_
   simp only [hg24,qf (g:=17),zl,f19,qq,qb,s5,s9,t5,qr,qn,B0,reduceIte,a9]
   refine qg (v:=lst cI i6.InStep) rfl ?_
   obtain ⟨v28,hx29,hF30⟩:=qi hx26
   simp only [hg24,qf (g:=17),zl,zi,B0,reduceIte,a9]
   refine ju rfl (ql z8 (ql z8 zh)) (qj1 (fun b hb=>decide_eq_true hb) i0.InStep i6.InStep v28 hx29) ?_
   simp only [hg24,qx,qb,zo,qa,qo,B0,reduceIte,a9]
   have e31:=qh hF30
   exact hN23 _ _ ⟨hS21,by rw [←e31]; simp only [B0,reduceIte,a9]⟩
  ·rw [iteF hg24] at hx26
   simp only [hg24,qf (g:=17),jh,qx,qb,zn,qa,qo,B0,reduceIte,a9]
   have e32:=qh hx26
   exact hN23 _ _ ⟨hS21,by rw [←e32]; simp only [B0,reduceIte,a9]⟩
 rintro fr33 h35 ⟨hS36,f34⟩
 simp only [t9,a0c]
 simp only [f34,qd,qa,qw,B0,reduceIte,a9]
 have he:=qh hF27
 subst he
 simp only [q9,B0,reduceIte,a9]
 exact rfl
end Go.Proofs.Ytohofoampalhoaa.X
namespace Go.Proofs.Ytohofoampalhoaa.X
open Go
theorem qjh {W:Nat→Bool}{h:Heap}{lo:Nat→Prop}{S0:List Obj} (hW:∀ b,
  lo b→W b=true) (k:Nat) (pb0:Nat) (f0:Cluster) (d9:XV) (i4:List Obj) (i8:SlF cI 1 3 d9 f0.Truth.InStep i4) (e8:XV) (l7:List Obj)
  (l6:SlN Node.R 6 68 e8 f0.Nodes l7) (f4:XV) (i5:List Obj) (l5:SlF qm 2 92 f4 f0.Acked i5) (d8:ClusterStep) (r:Bool × Cluster)
  (hF:uq k f0 d8=some r) (hS:Sep h lo ([Blk1 pb0 [.int .i64 f0.Truth.Epoch,.int .i64 f0.Truth.Leader,d9,e8,
  f4] 28]++(i4++(l7++(i5++(S0)))))) : Ret E W 99 [.ptr pb0 0,.agg [.int .i64 d8.Kind,.int .i64 d8.K,.int .i64 d8.To,
  .int .i64 d8.N]] h (fun v h'=>∃ ic0_2 ic0_3 ic0_4,
  v = .bool r.1∧SlF cI 1 3 d9 r.2.Truth.InStep ic0_2∧SlN Node.R 6 68 e8 r.2.Nodes ic0_3∧SlF qm 2 92 f4 r.2.Acked ic0_4∧Sep h' lo
  ([Blk1 pb0 [.int .i64 r.2.Truth.Epoch,.int .i64 r.2.Truth.Leader,d9,e8,f4] 28]++(ic0_2++(ic0_3++(ic0_4++(S0)))))):=by
 refine Ret.of (fn:=x99) rfl (Run.of ?_)
 unfold uq at hF
 have zf0:zb [.ptr pb0 0,.agg [.int .i64 d8.Kind,.int .i64 d8.K,.int .i64 d8.To,.int .i64 d8.N]] 0 = .ptr pb0 0:=rfl
 have zf1:zb [.ptr pb0 0,.agg [.int .i64 d8.Kind,.int .i64 d8.K,.int .i64 d8.To,.int .i64 d8.N]] 1 = .agg [.int .i64 d8.Kind,.int .i64 d8.K,.int .i64 d8.To,
   .int .i64 d8.N]:=rfl
 generalize zb [.ptr pb0 0,.agg [.int .i64 d8.Kind,.int .i64 d8.K,.int .i64 d8.To,.int .i64 d8.N]]=fr0 at zf0 zf1 ⊢
 simp only [x99,qe,qc,j7,zf1,B0,reduceIte,a9]
 refine jm (cs:=[.int .i64 d8.Kind,.int .i64 d8.K,.int .i64 d8.To,.int .i64 d8.N]) hS rfl rfl rfl (fun b1 h2 hS3=>?_)
 simp only [qd,qa,B0,reduceIte,a9]
 refine jc hS3 hW (by simp only [B0,reduceIte,a9]) (fun h5 hS6=>?_)
 simp only [jd,quf,qe,js,zf0,zv,qk,kp,zz,z9,s5,s9,t5,zd,zu,B0,reduceIte,
   a9]
 refine qt (v:=e8) ((jt (a0r _ _ _ hS6)).trans rfl) ?_
 simp only [z9,qk,s5,s9,t5,qr,zu,B0,reduceIte,a9]
 refine qt (v := .int .i64 d8.K) rfl ?_
 obtain ⟨x7,hx8,hF9⟩:=qi hF
 simp only [yv,B0,reduceIte,a9]
 obtain ⟨b10,hb11⟩:=SlN.isrow l6 (ka hx8)
 refine qt (SlN.ia l6 hb11 hx8) ?_
 simp only [zf0,zv,qk,kp,zz,z9,s5,s9,t5,zd,zu,B0,reduceIte,a9]
 refine qt (v:=e8) ((jt (a0r _ _ _ hS6)).trans rfl) ?_
 simp only [z9,qk,s5,s9,t5,qr,zu,B0,reduceIte,a9]
 refine qt (v := .int .i64 d8.To) rfl ?_
 obtain ⟨x12,hx13,hF14⟩:=qi hF9
 simp only [yv,B0,reduceIte,a9]
 refine qt (SlN.ia l6 hb11 hx13) ?_
 simp only [zv,qk,zc,q1y,qe,js,z9,s5,s9,t5,qr,zu,B0,reduceIte,a9]
 refine qt (v := .int .i64 d8.K) rfl ?_
 simp only [z9,qk,s5,s9,t5,qr,zu,B0,reduceIte,a9]
 refine qt (v := .int .i64 d8.To) rfl ?_
 simp only [yg,qk,k7,zv,B0,reduceIte,a9]
 refine wu 9 (fun fr' h'=>Sep h' lo (l7++([Blk1 pb0 [.int .i64 f0.Truth.Epoch,.int .i64 f0.Truth.Leader,d9,e8,
   f4] 28]++(i4++(i5++(S0)))))∧fr' 37 = .bool ((decide (d8.K=d8.To))||(decide (x12.View.Leader≠d8.To)))∧fr' 3 = .ref [.int .i64 d8.Kind,
   .int .i64 d8.K,.int .i64 d8.To,.int .i64 d8.N] 0∧fr' 5 = .ptr b10 (d8.K.toNat*6)∧fr' 6 = .ptr b10 (d8.To.toNat*6)) rfl (fun Q15 hN16=>?_) ?_
 ·simp only [t8,a0d]
  simp only [qp (g:=28),B0,reduceIte,a9]
  refine jq (t:=(decide (d8.K=d8.To))) (fun hg17=>?_) (fun hg17=>?_)
  ·simp only [hg17,qp (g:=28),qaj,jf,qk,zo,zc,qo,B0,reduceIte,a9]
   exact hN16 _ _ ⟨(a0e (a0k (a0k (a0e hS6)))),by rw [orT hg17]; simp only [B0,reduceIte,a9],rfl,rfl,rfl⟩
  ·obtain ⟨c18,cs19,os20,hv21,hR22,hS23⟩:=a2w (a26 l6 hb11 Node.RO.len) hx13 z7 Node.RO.len (a0k hS6)
   obtain ⟨v25,c26,v29,c30,v33,c34,hv27,hv31,hv35,rfl,rfl⟩:=hR22
   have hS24:=a2x hS23
   simp only [hg17,qp (g:=28),jg,zv,qk,kp,zz,z9,s5,s9,t5,zd,zu,B0,reduceIte,
     a9]
   refine qt (v := .int .i64 x12.View.Leader) ((a2s (o:=1) hv21 rfl hx13 hS24 (nle rfl)).trans rfl) ?_
   simp only [hg17,qp (g:=28),jg,z9,qk,s5,s9,t5,qr,zu,B0,reduceIte,a9]
   refine qt (v := .int .i64 d8.To) rfl ?_
   simp only [hg17,qp (g:=28),jg,yg,qk,ya,jf,zn,zc,qo,B0,reduceIte,a9]
   exact hN16 _ _ ⟨(a0e (a0k (a0k (a0e hS6)))),by rw [orF hg17]; simp only [B0,reduceIte,a9],rfl,rfl,rfl⟩
 rintro fr37 h42 ⟨hS43,f38,f39,f40,f41⟩
 simp only [t9,a0c]
 simp only [f38,zv,qk,B0,reduceIte,a9]
 refine wu 9 (fun fr' h'=>Sep h' lo (l7++([Blk1 pb0 [.int .i64 f0.Truth.Epoch,.int .i64 f0.Truth.Leader,d9,e8,
   f4] 28]++(i4++(i5++(S0)))))∧fr' 47 = .bool (((decide (d8.K=d8.To))||(decide (x12.View.Leader≠d8.To)))||(decide
   (x7.View.Leader=d8.K)))∧fr' 3 = .ref [.int .i64 d8.Kind,.int .i64 d8.K,.int .i64 d8.To,
   .int .i64 d8.N] 0∧fr' 5 = .ptr b10 (d8.K.toNat*6)∧fr' 6 = .ptr b10 (d8.To.toNat*6)) rfl (fun Q44 hN45=>?_) ?_
 ·simp only [t8,a0d]
  simp only [qp (g:=38),B0,reduceIte,a9]
  refine jq (t:=((decide (d8.K=d8.To))||(decide (x12.View.Leader≠d8.To)))) (fun hg46=>?_) (fun hg46=>?_)
  ·simp only [hg46,qp (g:=38),qaj,jf,qk,zo,zc,qo,B0,reduceIte,a9]
   exact hN45 _ _ ⟨(a0e (a0e (a0e (a0e hS43)))),by rw [orT hg46]; simp only [B0,reduceIte,a9],f39,f40,f41⟩
  ·obtain ⟨c47,cs48,os49,hv50,hR51,hS52⟩:=a2w (a26 l6 hb11 Node.RO.len) hx8 z7 Node.RO.len hS43
   obtain ⟨v54,c55,v58,c59,v62,c63,hv56,hv60,hv64,rfl,rfl⟩:=hR51
   have hS53:=a2x hS52
   simp only [hg46,qp (g:=38),jg,f40,zv,qk,kp,zz,z9,s5,s9,t5,zd,zu,B0,
     reduceIte,a9]
   refine qt (v := .int .i64 x7.View.Leader) ((a2s (o:=1) hv50 rfl hx8 hS53 (nle rfl)).trans rfl) ?_
   simp only [hg46,qp (g:=38),jg,f39,z9,qk,s5,s9,t5,qr,zu,B0,reduceIte,a9]
   refine qt (v := .int .i64 d8.K) rfl ?_
   simp only [hg46,qp (g:=38),jg,yg,qk,k7,jf,zn,zc,qo,B0,reduceIte,a9]
   exact hN45 _ _ ⟨(a0e (a0e (a0e (a0e hS43)))),by rw [orF hg46]; simp only [B0,reduceIte,a9],f39,f40,f41⟩
 rintro fr66 h71 ⟨hS72,f67,f68,f69,f70⟩
 simp only [t9,a0c]
 simp only [f67,zv,qk,B0,reduceIte,a9]
 refine wu 12 (fun fr' h'=>Sep h' lo (l7++([Blk1 pb0 [.int .i64 f0.Truth.Epoch,.int .i64 f0.Truth.Leader,d9,e8,
   f4] 28]++(i4++(i5++(S0)))))∧fr' 60 = .bool ((((decide (d8.K=d8.To))||(decide (x12.View.Leader≠d8.To)))||(decide (x7.View.Leader=d8.K))) ||
   (decide (x7.View.Epoch≠x12.View.Epoch)))∧fr' 3 = .ref [.int .i64 d8.Kind,.int .i64 d8.K,.int .i64 d8.To,
   .int .i64 d8.N] 0∧fr' 5 = .ptr b10 (d8.K.toNat*6)∧fr' 6 = .ptr b10 (d8.To.toNat*6)) rfl (fun Q73 hN74=>?_) ?_
 ·simp only [t8,a0d]
  simp only [qp (g:=48),B0,reduceIte,a9]
  refine jq (t:=(((decide (d8.K=d8.To))||(decide (x12.View.Leader≠d8.To)))||(decide (x7.View.Leader=d8.K)))) (fun hg75=>?_) (fun hg75=>?_)
  ·simp only [hg75,qp (g:=48),qaj,jf,qk,zo,zc,qo,B0,reduceIte,a9]
   exact hN74 _ _ ⟨(a0e (a0e (a0e (a0e hS72)))),by rw [orT hg75]; simp only [B0,reduceIte,a9],f68,f69,f70⟩
  ·obtain ⟨c76,cs77,os78,hv79,hR80,hS81⟩:=a2w (a26 l6 hb11 Node.RO.len) hx8 z7 Node.RO.len hS72
   obtain ⟨v83,c84,v87,c88,v91,c92,hv85,hv89,hv93,rfl,rfl⟩:=hR80
   have hS82:=a2x hS81
   simp only [hg75,qp (g:=48),jg,f69,zv,qk,kp,zz,z9,s5,s9,t5,zd,zu,B0,
     reduceIte,a9]
   refine qt (v := .int .i64 x7.View.Epoch) ((a2s (o:=0) hv79 rfl hx8 hS82 (nle rfl)).trans rfl) ?_
   obtain ⟨c95,hv96,hS97⟩:=a1x (c:=c76) (os:=c84++(c88++(c92))) hv79 rfl hx8 z7 (Node.RI (x:=x7) hv85 hv89 hv93) (a1p (c1:=c84) (c2:=c88)
     (c3:=c92) (a0e (a0e (a0e (a0e hS82)))))
   have hv98:=a1s hv96
   obtain ⟨c99,cs100,os101,hv102,hR103,hS104⟩:=a2w (a26 hv98 hb11 Node.RO.len) hx13 z7 Node.RO.len hS97
   obtain ⟨v106,c107,v110,c111,v114,c115,hv108,hv112,hv116,rfl,rfl⟩:=hR103
   have hS105:=a2x hS104
   simp only [hg75,qp (g:=48),jg,f70,zv,qk,kp,zz,z9,s5,s9,t5,zd,zu,B0,
     reduceIte,a9]
   refine qt (v := .int .i64 x12.View.Epoch) ((a2s (o:=0) hv102 rfl hx13 hS105 (nle rfl)).trans rfl) ?_
   simp only [hg75,qp (g:=48),jg,yg,qk,ya,jf,zn,zc,qo,B0,reduceIte,a9]
   exact hN74 _ _ ⟨(a0e (a0e (a0e (a0e hS72)))),by rw [orF hg75]; simp only [B0,reduceIte,a9],f68,f69,f70⟩
 rintro fr118 h123 ⟨hS124,f119,f120,f121,f122⟩
 simp only [t9,a0c]
 simp only [f119,zv,qk,B0,reduceIte,a9]
 simp only [qp (g:=61),B0,reduceIte,a9]
 refine jq (t:=((((decide (d8.K=d8.To))||(decide (x12.View.Leader≠d8.To)))||(decide (x7.View.Leader=d8.K)))||(decide
   (x7.View.Epoch≠x12.View.Epoch)))) (fun hg125=>?_) (fun hg125=>?_)
 ·rw [iteT hg125] at hF14
  simp only [hg125,qp (g:=61),qaj,jf,qk,zo,zc,qy,qnv,qe,qc,qd,qa,qw,B0,
    reduceIte,a9]
  have he:=qh hF14
  subst he
  simp only [q9,B0,reduceIte,a9]
  exact ⟨i4,l7,i5,by first | trivial | rfl,i8,l6,l5,(a0e (a0e (a0l (a0e hS124))))⟩
 rw [iteF hg125] at hF14
 simp only [hg125,qp (g:=61),jg,f120,z9,qk,s5,s9,t5,qr,zu,B0,reduceIte,a9]
 refine qt (v := .int .i64 d8.N) rfl ?_
 simp only [hg125,qp (g:=61),jg,y9,B0,reduceIte,a9]
 refine qc3 rfl (ql qs (ql qs (ql qs zh))) (xn (fun b hb=>decide_eq_true hb) d8.N 0 30 _ rfl) ?_
 simp only [hg125,qp (g:=61),jg,qeu,qk,kz,jf,zn,zc,qy,B0,reduceIte,a9]
 refine qu (t:=(!(zw d8.N 0 30))) (fun hc126=>?_) (fun hc126=>?_)
 ·rw [iteT hc126] at hF14
  simp only [qe,qc,qd,qa,qw,B0,reduceIte,a9]
  have he:=qh hF14
  subst he
  simp only [q9,B0,reduceIte,a9]
  exact ⟨i4,l7,i5,by first | trivial | rfl,i8,l6,l5,(a0e (a0e (a0l (a0e hS124))))⟩
 rw [iteF hc126] at hF14
 simp only [zf,q00,qe,qc,qd,qa,q3s,B0,reduceIte,a9]
 obtain ⟨oc137,hX139,hk140⟩:=jy hF14
 simp only [q51]
 refine y8 (σ:=Int × (List Node)) (fun s288=>we d8 s288.1 s288.2) (fun s fr' h'=>∃ c133,fr' 3 = .ref [.int .i64 d8.Kind,.int .i64 d8.K,
   .int .i64 d8.To,.int .i64 d8.N] 0∧fr' 5 = .ptr b10 (d8.K.toNat*6)∧fr' 6 = .ptr b10
   (d8.To.toNat*6)∧fr' 7 = .int .i64 s.1∧SlN Node.R 6 68 e8 s.2 c133∧Sep h' lo (c133++([Blk1 pb0 [.int .i64 f0.Truth.Epoch,.int .i64 f0.Truth.Leader,d9,
   e8,f4] 28]++(i4++(i5++(S0)))))) hX139 ⟨l7,f120,f121,f122,rfl,l6,(a0e (a0e (a0e (a0e hS124))))⟩ (fun _ _ _ h=>h) ?_ ?_
 ·rintro ⟨s131,s132⟩ fr149 h150 ⟨c133,f152,f153,f154,f155,hv134,hS151⟩ oc138 hF141 hr142 Q143 hN144 hK145 hR146 hE147
  dsimp only at *
  unfold we at hF141
  obtain ⟨x157,hx158,hF159⟩:=qi hF141
  obtain ⟨c160,cs161,os162,hv163,hR164,hS165⟩:=a2w (a26 hv134 hb11 Node.RO.len) hx158 z7 Node.RO.len hS151
  obtain ⟨v167,c168,v171,c172,v175,c176,hv169,hv173,hv177,rfl,rfl⟩:=hR164
  have hS166:=a2x hS165
  simp only [q7q,qe,js,f155,zv,qk,f153,kp,zz,z9,s5,s9,t5,zd,zu,B0,reduceIte,
    a9]
  refine qt (v:=v171) ((a2s (o:=3) hv163 rfl hx158 hS166 (nle rfl)).trans rfl) ?_
  obtain ⟨c179,hv180,hS181⟩:=a1x (c:=c160) (os:=c168++(c172++(c176))) hv163 rfl hx158 z7 (Node.RI (x:=x157) hv169 hv173 hv177) (a1p (c1:=c168)
    (c2:=c172) (c3:=c176) (a0e (a0e (a0e (a0e hS166)))))
  have hv182:=a1s hv180
  obtain ⟨x183,hx184,hF185⟩:=qi hF159
  obtain ⟨c186,cs187,os188,hv189,hR190,hS191⟩:=a2w (a26 hv182 hb11 Node.RO.len) hx184 z7 Node.RO.len hS181
  obtain ⟨v193,c194,v197,c198,v201,c202,hv195,hv199,hv203,rfl,rfl⟩:=hR190
  have hS192:=a2x hS191
  simp only [qd8,qk,a2i hv173,f154,zv,kp,zz,z9,s5,s9,t5,zd,zu,B0,reduceIte,a9]
  refine qt (v:=v197) ((a2s (o:=3) hv189 rfl hx184 hS192 (nle rfl)).trans rfl) ?_
  simp only [qd8,qk,a2i hv199,zb8,qsi,yg,k6,zv,B0,reduceIte,a9]
  obtain ⟨v208,hx209,hF210⟩:=qi hF185
  refine wu 16 (fun fr' h'=>Sep h' lo (c186++([Blk1 pb0 [.int .i64 f0.Truth.Epoch,.int .i64 f0.Truth.Leader,d9,e8,
    f4] 28]++(c194++(c198++(c202++(i4++(i5++(S0))))))))∧fr' 96 = .bool v208∧fr' 3 = .ref [.int .i64 d8.Kind,.int .i64 d8.K,.int .i64 d8.To,
    .int .i64 d8.N] 0∧fr' 5 = .ptr b10 (d8.K.toNat*6)∧fr' 6 = .ptr b10 (d8.To.toNat*6)∧fr' 7 = .int .i64 s131) rfl (fun Q205 hN206=>?_) ?_
  ·simp only [t8,a0d]
   simp only [qp (g:=80),B0,reduceIte,a9]
   refine jq (t:=(decide (s131<(mnI (t6 x157.Log:Int) (t6 x183.Log:Int))))) (fun hg207=>?_) (fun hg207=>?_)
   ·rw [iteT hg207] at hx209
    obtain ⟨c211,hv212,hS213⟩:=a1x (c:=c186) (os:=c194++(c198++(c202))) hv189 rfl hx184 z7 (Node.RI (x:=x183) hv195 hv199 hv203) (a1p (c1:=c194)
      (c2:=c198) (c3:=c202) (a0e (a0e (a0e (a0e hS192)))))
    have hv214:=a1s hv212
    obtain ⟨c215,cs216,os217,hv218,hR219,hS220⟩:=a2w (a26 hv214 hb11 Node.RO.len) hx158 z7 Node.RO.len hS213
    obtain ⟨v222,c223,v226,c227,v230,c231,hv224,hv228,hv232,rfl,rfl⟩:=hR219
    have hS221:=a2x hS220
    simp only [hg207,qp (g:=80),zk,f153,zv,qk,kp,zz,z9,s5,s9,t5,zd,zu,B0,
      reduceIte,a9]
    refine qt (v:=v226) ((a2s (o:=3) hv218 rfl hx158 hS221 (nle rfl)).trans rfl) ?_
    obtain ⟨x234,hx235,hF236⟩:=qi hx209
    simp only [hg207,qp (g:=80),zk,f155,zv,qk,yv,B0,reduceIte,a9]
    obtain ⟨b237,hb238⟩:=a13 hv228 (ka hx235)
    refine qt (a2u hv228 hb238 hx235) ?_
    simp only [hg207,qp (g:=80),zk,zu,B0,reduceIte,a9]
    refine qt (v := .agg [.int .i64 x234.Epoch,.int .i64 x234.Value]) ((SlF.lds (o:=0) hv228 (a0k hS221) hb238 hx235 (fun _=>rfl) (nle rfl)).trans rfl) ?_
    obtain ⟨c239,hv240,hS241⟩:=a1x (c:=c215) (os:=c223++(c227++(c231))) hv218 rfl hx158 z7 (Node.RI (x:=x157) hv224 hv228 hv232) (a1p (c1:=c223)
      (c2:=c227) (c3:=c231) (a0e (a0e (a0e (a0e hS221)))))
    have hv242:=a1s hv240
    obtain ⟨c243,cs244,os245,hv246,hR247,hS248⟩:=a2w (a26 hv242 hb11 Node.RO.len) hx184 z7 Node.RO.len hS241
    obtain ⟨v250,c251,v254,c255,v258,c259,hv252,hv256,hv260,rfl,rfl⟩:=hR247
    have hS249:=a2x hS248
    simp only [hg207,qp (g:=80),zk,f154,zv,qk,kp,zz,z9,s5,s9,t5,zd,zu,B0,
      reduceIte,a9]
    refine qt (v:=v254) ((a2s (o:=3) hv246 rfl hx184 hS249 (nle rfl)).trans rfl) ?_
    obtain ⟨x262,hx263,hF264⟩:=qi hF236
    simp only [hg207,qp (g:=80),zk,f155,zv,qk,yv,B0,reduceIte,a9]
    obtain ⟨b265,hb266⟩:=a13 hv256 (ka hx263)
    refine qt (a2u hv256 hb266 hx263) ?_
    simp only [hg207,qp (g:=80),zk,zu,B0,reduceIte,a9]
    refine qt (v := .agg [.int .i64 x262.Epoch,.int .i64 x262.Value]) ((SlF.lds (o:=0) hv256 (a0k hS249) hb266 hx263 (fun _=>rfl) (nle rfl)).trans rfl) ?_
    simp only [hg207,qp (g:=80),zk,qp8,B0,reduceIte,a9]
    refine qt (v := .bool ((x234.Epoch == x262.Epoch)&&((x234.Value == x262.Value)&&true))) rfl ?_
    simp only [hg207,jf,qk,zo,zc,qo,B0,reduceIte,a9]
    have e267:=qh hF264
    exact hN206 _ _ ⟨(a0v (a0v (a03 (a03 (a03 (a0v (a0v hS192))))))),by rw [←e267]; simp only [B0,reduceIte,a9],f152,f153,f154,f155⟩
   ·rw [iteF hg207] at hx209
    simp only [hg207,qp (g:=80),ku,jf,qk,zn,zc,qo,B0,reduceIte,a9]
    have e268:=qh hx209
    exact hN206 _ _ ⟨(a0v (a0v (a03 (a03 (a03 (a0v (a0v hS192))))))),by rw [←e268]; simp only [B0,reduceIte,a9],f152,f153,f154,f155⟩
  rintro fr269 h275 ⟨hS276,f270,f271,f272,f273,f274⟩
  simp only [t9,a0c]
  simp only [zc,f270,qy,B0,reduceIte,a9]
  refine qu (t:=v208) (fun hc277=>?_) (fun hc277=>?_)
  ·rw [iteT hc277] at hF210
   simp only [zf,kj,qc,f274,qd,qv,qb,yx,qa,yd,qo,B0,reduceIte,a9]
   obtain ⟨c278,hv279,hS280⟩:=a1x (c:=c186) (os:=c194++(c198++(c202))) hv189 rfl hx184 z7 (Node.RI (x:=x183) hv195 hv199 hv203) (a1p (c1:=c194)
     (c2:=c198) (c3:=c202) (a0e (a0i (a0i (a0i hS276)))))
   have hv281:=a1s hv279
   have e282:=qh hF210
   exact hN144 _ _ _ e282.symm ⟨c278,f271,f272,f273,rfl,hv281,(a0e (a0e (a0e (a0e hS280))))⟩
  rw [iteF hc277] at hF210
  simp only [yf,yc,yp,B0,reduceIte,a9]
  obtain ⟨c283,hv284,hS285⟩:=a1x (c:=c186) (os:=c194++(c198++(c202))) hv189 rfl hx184 z7 (Node.RI (x:=x183) hv195 hv199 hv203) (a1p (c1:=c194)
    (c2:=c198) (c3:=c202) (a0e (a0i (a0i (a0i hS276)))))
  have hv286:=a1s hv284
  have e287:=qh hF210
  exact hK145 _ _ _ e287.symm ⟨c283,f271,f272,f273,f274,hv286,(a0e (a0e (a0e (a0e hS285))))⟩
 rintro ⟨s289,s290⟩ fr293 h294 rfl ⟨c291,f296,f297,f298,f299,hv292,hS295⟩
 dsimp only [jnO] at hk140
 dsimp only at *
 unfold qb8 at hk140
 obtain ⟨x300,hx301,hF302⟩:=qi hk140
 obtain ⟨c303,cs304,os305,hv306,hR307,hS308⟩:=a2w (a26 hv292 hb11 Node.RO.len) hx301 z7 Node.RO.len hS295
 obtain ⟨v310,c311,v314,c315,v318,c319,hv312,hv316,hv320,rfl,rfl⟩:=hR307
 have hS309:=a2x hS308
 simp only [q1w,qe,qc,f298,qd,yu,qb,zz,qq,s5,s9,t5,zd,qn,B0,reduceIte,a9]
 refine qg (v:=v314) ((a2s (o:=3) hv306 rfl hx301 hS309 (nle rfl)).trans rfl) ?_
 obtain ⟨l322,hx323,hF324⟩:=qi hF302
 simp only [f299,qd,qes,a02,a1k,B0,reduceIte,a9]
 obtain ⟨w325,i326,he327,hw328⟩:=SlF.win (f:=qm) (ty:=92) (some s289) none hv316 hx323 (a0k hS309)
 refine qg he327 ?_
 simp only [qd,qa,qzo,qe,js,f297,qh8,qk,qdb,evp,B0,reduceIte,a9]
 refine qdx (n:=2) (f:=qm) ([] : List Row) hS309 rfl rfl (fun v330 c331 h332 hv333 hS334 hq329=>?_)
 obtain ⟨x336,hx337,hF338⟩:=qi hF324
 obtain ⟨hp339,hF340⟩:=qnd hF338
 have hn341:=qse hp339 hx301 hx337
 obtain ⟨c342,cs343,os344,hv345,hR346,hS347⟩:=a2w hv306 hx337 ((qgs hn341).trans z7) Node.RO.len (a0l hS334)
 obtain ⟨v349,c350,v353,c354,v357,c358,hv351,hv355,hv359,rfl,rfl⟩:=hR346
 have hS348:=a2x hS347
 simp only [f297,zv,qk,kp,zz,z9,s5,s9,t5,zd,zu,B0,reduceIte,a9]
 refine qt (v:=v353) ((a2s (o:=3) hv345 rfl hx337 hS348 (nle rfl)).trans rfl) ?_
 obtain ⟨l361,hx362,hF363⟩:=qi hF340
 simp only [f299,zv,qk,qm3,a02,a1k,B0,reduceIte,a9]
 obtain ⟨w364,i365,he366,hw367⟩:=SlF.win (f:=qm) (ty:=92) none (some s289) hv355 hx362 (a0k hS348)
 refine qt he366 ?_
 simp only [qku,B0,reduceIte,a9]
 obtain ⟨l368,hx369,hF370⟩:=qi hF363
 have hq371:=nwq (fun z hz=>Sep.dj (a03 (Sep.m8 hS348)) qfy (a31 hv333 z hz))
 refine qog ql8 ?_
 refine qbl (f:=qm) hv333 (a0i hS348) hW (fun _=>rfl) (fun _=>rfl) (SlW.first hw367 hv355 (a0k hS348) (fun _=>rfl)) hx369
   (fun v372 c373 h374 hv375 hS376=>?_)
 simp only [qh8,qk,f296,qb0,s5,s9,t5,qr,uw,qcs,B0,reduceIte,a9]
 refine qt (v := .int .i64 d8.N) rfl ?_
 obtain ⟨l378,hx379,hF380⟩:=qi hF370
 simp only [qh8,qk,zaz,SlW.plen hw328 hv316,zar,qsi,zbr,a02,a1k,B0,reduceIte,a9]
 obtain ⟨w381,i382,he383,hw384⟩:=SlW.win (ty:=92) none (some (mnI d8.N (t6 l322:Int))) hw328 hv316 hx379 (a0v hS376)
 refine qt he383 ?_
 simp only [qf8,B0,reduceIte,a9]
 obtain ⟨l385,hx386,hF387⟩:=qi hF380
 refine qbl (f:=qm) hv375 hS376 hW (fun _=>rfl) (fun _=>rfl) (SlW.first hw384 hv316 (a0v hS376) (fun _=>rfl)) hx386 (fun v388 c389 h390 hv391 hS392=>?_)
 simp only [kp,qk,zz,z9,s5,s9,t5,zd,qds,B0,reduceIte,a9]
 refine qjg (n:=6) (us:=[v388]) (cs:=[.int .i64 x336.View.Epoch,.int .i64 x336.View.Leader,v349,v353,v357,
   .int .i64 x336.Told]) (o:=3) (cs':=[.int .i64 x336.View.Epoch,.int .i64 x336.View.Leader,v349,v388,v357,
   .int .i64 x336.Told]) (j8 (a0g hv391)) hv345 rfl hx337 (a0l hS392) hW rfl (qj (a0g hv391) zq) (nle rfl) rfl (fun c396 h394 hv397 hS395=>?_)
 simp only [zc,q4p,qe,qc,f297,qd,yu,qb,zz,qq,s5,s9,t5,zd,zp,B0,reduceIte,
   a9]
 refine ws (n:=6) (us:=[.int .i64 0]) (cs:=[.int .i64 x336.View.Epoch,.int .i64 x336.View.Leader,v349,v388,v357,
   .int .i64 x336.Told]) (o:=5) (cs':=[.int .i64 x336.View.Epoch,.int .i64 x336.View.Leader,v349,v388,v357,
   .int .i64 0]) rfl hv397 rfl hx337 hS395 hW rfl rfl (nle rfl) rfl (fun c400 h398 hv401 hS399=>?_)
 have hv402:=SlG.swap hv401 (Ne.symm hn341)
 simp only [qa,q34,qe,js,f298,zv,qk,kp,zz,z9,s5,s9,t5,zd,zu,B0,reduceIte,
   a9]
 refine qt (v:=v318) ((a2s (o:=4) hv402 rfl hx301 hS399 (nle rfl)).trans rfl) ?_
 simp only [f296,z9,qk,s5,s9,t5,qr,zu,B0,reduceIte,a9]
 refine qt (v := .int .i64 d8.K) rfl ?_
 have hv403:=SlG.swap hv402 hn341
 simp only [f297,zv,qk,kp,zz,z9,s5,s9,t5,zd,zu,B0,reduceIte,a9]
 refine qt (v:=v388) ((a2s (o:=3) hv403 rfl hx337 hS399 (nle rfl)).trans rfl) ?_
 obtain ⟨x404,hx405,hF406⟩:=qi hF387
 simp only [qd8,qk,a2i hv391,yv,B0,reduceIte,a9]
 obtain ⟨b407,hb408⟩:=a13 hv320 (ka hx405)
 refine qt (a2u hv320 hb408 hx405) ?_
 simp only [qds,B0,reduceIte,a9]
 refine qkj (f:=cI) (x':=(t6 l385:Int)) (o:=0) hv320 (a0j hS399) hW hb408 hx405 (fun _=>rfl) rfl rfl (nle rfl) rfl (fun c411 h409 hv412 hS410=>?_)
 have hx413:=kf (x':=(t6 l385:Int)) hx405
 simp only [zc,qe,qc,qd,qa,qw,B0,reduceIte,a9]
 obtain ⟨c414,hv415,hS416⟩:=a3u (e':=(Node.mk x336.View l385 x336.Known 0)) (c:=c400) (os:=c350++(c389++(c358))) hv403 rfl hx337 ((qgs hn341).trans z7)
   (Node.RI (x:=(Node.mk x336.View l385 x336.Known 0)) hv351 hv391 hv359) (a1p (c1:=c350) (c2:=c389) (c3:=c358) (a0i (a0i (a0e (a03 hS410)))))
 have hx417:=kf (x':=(Node.mk x336.View l385 x336.Known 0)) hx337
 have hx418:=qk9 (e:=(Node.mk x336.View l385 x336.Known 0)) hx301 (Ne.symm hn341)
 obtain ⟨c419,hv420,hS421⟩:=a3u (e':=(Node.mk x300.View x300.Log (a1u x300.Known d8.K.toNat (t6 l385:Int)) x300.Told)) (c:=c414) (os:=c311 ++
   (c315++(c411))) hv415 rfl hx418 z7 (Node.RI (x:=(Node.mk x300.View x300.Log (a1u x300.Known d8.K.toNat
   (t6 l385:Int)) x300.Told)) hv312 hv316 hv412) (a1p (c1:=c311) (c2:=c315) (c3:=c411) (a0e (a0i (a0i (a0l hS416)))))
 have hx422:=kf (x':=(Node.mk x300.View x300.Log (a1u x300.Known d8.K.toNat (t6 l385:Int)) x300.Told)) hx418
 have hv423:=a1s hv420
 have he:=qh hF406
 subst he
 simp only [q9,B0,reduceIte,a9]
 exact ⟨i4,c419,i5,by first | trivial | rfl,i8,hv423,l5,(a0e (a0e (a0l (a0e (a0s (a0l hS421))))))⟩
theorem qhv {W:Nat→Bool}{h:Heap} (hW:∀ b,
  (geL h.length) b→W b=true) (n8:Int) (r:Bool) (hF:some (yo n8)=some r) : Ret E W 109 [.int .i64 n8] h
  (fun v h'=>cut h.length h' E.sz false 9 v=some (.bool r)):=by
 refine Ret.of (fn:=qnl) rfl (Run.of ?_)
 unfold yo at hF
 have zf0:zb [.int .i64 n8] 0 = .int .i64 n8:=rfl
 generalize zb [.int .i64 n8]=fr0 at zf0 ⊢
 have hS:Sep h (geL h.length) []:=a1q h
 simp only [qnl,qe,qc,qd,qa,qxj,zf0,qv,qb,ya,qw,B0,reduceIte,a9]
 have he:=qh hF
 subst he
 simp only [q9,B0,reduceIte,a9]
 exact rfl
theorem qnf {W:Nat→Bool}{h:Heap} (hW:∀ b,
  (geL h.length) b→W b=true) (n8:Int) (y_1:Int) (r:Bool) (hF:some (qcd n8 y_1)=some r) : Ret E W 105 [.int .i64 n8,
  .int .i64 y_1] h (fun v h'=>cut h.length h' E.sz false 9 v=some (.bool r)):=by
 refine Ret.of (fn:=qrp) rfl (Run.of ?_)
 unfold qcd at hF
 have zf0:zb [.int .i64 n8,.int .i64 y_1] 0 = .int .i64 n8:=rfl
 have zf1:zb [.int .i64 n8,.int .i64 y_1] 1 = .int .i64 y_1:=rfl
 generalize zb [.int .i64 n8,.int .i64 y_1]=fr0 at zf0 zf1 ⊢
 have hS:Sep h (geL h.length) []:=a1q h
 simp only [qrp,qe,qc,qd,qa,qxs,zf0,zi,B0,reduceIte,a9]
 refine ju rfl (ql qs zh) (qhv (fun b hb=>decide_eq_true hb) n8 _ rfl) ?_
 simp only [qd,B0,reduceIte,a9]
 refine jj 4 (fun fr' h'=>Sep h' (geL h.length) ([])∧fr' 11 = .bool ((yo n8)&&(!(yo y_1)))∧fr' 0 = .int .i64 n8∧fr' 1 = .int .i64 y_1)
   (fun Q1 hN2=>?_) ?_
 ·simp only [t8,a0d]
  simp only [qf (g:=7),B0,reduceIte,a9]
  refine zj (t:=(yo n8)) (fun hg3=>?_) (fun hg3=>?_)
  ·simp only [hg3,qf (g:=7),zl,zf1,qd,zi,B0,reduceIte,a9]
   refine ju rfl (ql qs zh) (qhv (fun b hb=>decide_eq_true hb) y_1 _ rfl) ?_
   simp only [hg3,qf (g:=7),zl,kh,qb,kz,qx,zo,qa,qo,B0,reduceIte,a9]
   exact hN2 _ _ ⟨hS,by rw [yk hg3]; simp only [B0,reduceIte,a9],zf0,zf1⟩
  ·simp only [hg3,qf (g:=7),jh,qx,qb,zn,qa,qo,B0,reduceIte,a9]
   exact hN2 _ _ ⟨hS,by rw [yj hg3]; simp only [B0,reduceIte,a9],zf0,zf1⟩
 rintro fr4 h8 ⟨hS9,f5,f6,f7⟩
 simp only [t9,a0c]
 simp only [f5,qd,B0,reduceIte,a9]
 refine jj 4 (fun fr' h'=>Sep h' (geL h.length) ([])∧fr' 16 = .bool (((yo n8)&&(!(yo y_1)))||(decide (n8<y_1)))) (fun Q10 hN11=>?_) ?_
 ·simp only [t8,a0d]
  simp only [qf (g:=12),B0,reduceIte,a9]
  refine zj (t:=((yo n8)&&(!(yo y_1)))) (fun hg12=>?_) (fun hg12=>?_)
  ·simp only [hg12,qf (g:=12),jr,qx,qb,zo,qa,qo,B0,reduceIte,a9]
   exact hN11 _ _ ⟨hS9,by rw [orT hg12]; simp only [B0,reduceIte,a9]⟩
  ·simp only [hg12,qf (g:=12),q8,f6,qd,f7,qv,qb,k6,qx,zn,qa,qo,B0,reduceIte,a9]
   exact hN11 _ _ ⟨hS9,by rw [orF hg12]; simp only [B0,reduceIte,a9]⟩
 rintro fr13 h15 ⟨hS16,f14⟩
 simp only [t9,a0c]
 simp only [f14,qd,qa,qw,B0,reduceIte,a9]
 have he:=qh hF
 subst he
 simp only [q9,B0,reduceIte,a9]
 exact rfl
theorem qfz {W:Nat→Bool}{h:Heap} (hW:∀ b,
  (geL h.length) b→W b=true) (n8:Int) (r:Bool) (hF:some (wg n8)=some r) : Ret E W 106 [.int .i64 n8] h
  (fun v h'=>cut h.length h' E.sz false 9 v=some (.bool r)):=by
 refine Ret.of (fn:=qso) rfl (Run.of ?_)
 unfold wg at hF
 have zf0:zb [.int .i64 n8] 0 = .int .i64 n8:=rfl
 generalize zb [.int .i64 n8]=fr0 at zf0 ⊢
 have hS:Sep h (geL h.length) []:=a1q h
 simp only [qso,qe,qc,qd,qa,qs3,zf0,qv,qb,ya,qw,B0,reduceIte,a9]
 have he:=qh hF
 subst he
 simp only [q9,B0,reduceIte,a9]
 exact rfl
theorem qgv {W:Nat→Bool}{h:Heap} (hW:∀ b,
  (geL h.length) b→W b=true) (k:Nat) (n8:List Int) (target_1:Int) (r:Int × Bool) (hF:wm k n8 target_1=some r) : Ret E W 102 [lst cI n8,
  .int .i64 target_1] h (fun v h'=>cut h.length h' E.sz false 9 v=some (.tup [.int .i64 r.1,.bool r.2])):=by
 refine Ret.of (fn:=qsn) rfl (Run.of ?_)
 unfold wm at hF
 have zf0:zb [lst cI n8,.int .i64 target_1] 0=lst cI n8:=rfl
 have zf1:zb [lst cI n8,.int .i64 target_1] 1 = .int .i64 target_1:=rfl
 generalize zb [lst cI n8,.int .i64 target_1]=fr0 at zf0 zf1 ⊢
 have hS:Sep h (geL h.length) []:=a1q h
 simp only [qsn,qe,qc,qd,qa,qq9,zf0,zy,qb,je,qv0,qvi,B0,reduceIte,a9]
 obtain ⟨oc7,hX9,hk10⟩:=jy hF
 simp only [qw0]
 refine y8 (σ:=Int × Int) (fun s36=>yz n8 target_1 s36.1 s36.2)
   (fun s fr' h'=>fr' 0=lst cI n8∧fr' 1 = .int .i64 target_1∧fr' 6 = .int .i64 (t6 n8:Int)∧fr' 7 = .int .i64 s.1∧fr' 8 = .int .i64 s.2∧Sep h'
   (geL h.length) ([])) hX9 ⟨zf0,zf1,rfl,rfl,rfl,hS⟩ (fun _ _ _ h=>h) ?_ ?_
 ·rintro ⟨s3,s4⟩ fr19 h20 ⟨f22,f23,f24,f25,f26,hS21⟩ oc8 hF11 hr12 Q13 hN14 hK15 hR16 hE17
  dsimp only at *
  unfold yz at hF11
  simp only [qvr,qe,qc,f25,qd,f26,qv,qb,k6,qa,qy,B0,reduceIte,a9]
  refine qu (t:=(decide (s3<s4))) (fun hc28=>?_) (fun hc28=>?_)
  ·rw [iteT hc28] at hF11
   obtain ⟨x29,hx30,hF31⟩:=qi hF11
   simp only [zf,qs4,kj,qwg,qe,qc,f25,qd,f26,qv,qb,yx,q8x,zbu,q89 (n:=1) (by decide),qa,
     qtn,f22,ji,B0,reduceIte,a9]
   refine qg (v := .ref (cI x29) 0) (kw hx30 rfl) ?_
   simp only [qn,B0,reduceIte,a9]
   refine qg (v := .int .i64 x29) rfl ?_
   simp only [f23,qd,zi,B0,reduceIte,a9]
   refine ju rfl (ql qs (ql qs zh)) (qnf (fun b hb=>decide_eq_true hb) x29 target_1 _ rfl) ?_
   simp only [qa,qwp,qy,B0,reduceIte,a9]
   refine qu (t:=(qcd x29 target_1)) (fun hc32=>?_) (fun hc32=>?_)
   ·rw [iteT hc32] at hF31
    simp only [qc,qd,qv,qb,yx,qa,yd,qo,B0,reduceIte,a9]
    have e33:=qh hF31
    exact hN14 _ _ _ e33.symm ⟨f22,f23,f24,rfl,f26,hS21⟩
   rw [iteF hc32] at hF31
   simp only [qc,qd,qa,yd,qo,B0,reduceIte,a9]
   have e34:=qh hF31
   exact hN14 _ _ _ e34.symm ⟨f22,f23,f24,f25,rfl,hS21⟩
  rw [iteF hc28] at hF11
  simp only [yf,yc,yp,B0,reduceIte,a9]
  have e35:=qh hF11
  exact hK15 _ _ _ e35.symm ⟨f22,f23,f24,f25,f26,hS21⟩
 rintro ⟨s37,s38⟩ fr39 h40 rfl ⟨f42,f43,f44,f45,f46,hS41⟩
 dsimp only [jnO] at hk10
 dsimp only at *
 unfold u6 at hk10
 simp only [quj,qe,qc,f45,qd,f44,qv,qb,k6,B0,reduceIte,a9]
 obtain ⟨v50,hx51,hF52⟩:=qi hk10
 refine jj 18 (fun fr' h'=>Sep h' (geL h.length) ([])∧fr' 53 = .bool v50∧fr' 31 = .int .i64 s37) (fun Q47 hN48=>?_) ?_
 ·simp only [t8,a0d]
  simp only [qf (g:=35),B0,reduceIte,a9]
  refine zj (t:=(decide (s37<(t6 n8:Int)))) (fun hg49=>?_) (fun hg49=>?_)
  ·rw [iteT hg49] at hx51
   obtain ⟨x53,hx54,hF55⟩:=qi hx51
   simp only [hg49,qf (g:=35),zl,f42,qd,f45,ji,B0,reduceIte,a9]
   refine qg (v := .ref (cI x53) 0) (kw hx54 rfl) ?_
   simp only [hg49,qf (g:=35),zl,qn,B0,reduceIte,a9]
   refine qg (v := .int .i64 x53) rfl ?_
   simp only [hg49,qf (g:=35),zl,f43,qd,qv,qb,k7,B0,reduceIte,a9]
   obtain ⟨v59,hx60,hF61⟩:=qi hF55
   refine jj 10 (fun fr' h'=>Sep h' (geL h.length) ([])∧fr' 52 = .bool v59∧fr' 31 = .int .i64 s37∧fr' 35 = .bool (decide (s37<(t6 n8:Int))))
     (fun Q56 hN57=>?_) ?_
   ·simp only [t8,a0d]
    simp only [qf (g:=42),B0,reduceIte,a9]
    refine zj (t:=(decide (x53=target_1))) (fun hg58=>?_) (fun hg58=>?_)
    ·rw [iteT hg58] at hx60
     simp only [hg58,qf (g:=42),jr,qf (g:=48),qbp,hg49,qf (g:=35),zl,qx,qb,zo,qa,
       qo,B0,reduceIte,a9]
     have e62:=qh hx60
     exact hN57 _ _ ⟨hS41,by rw [←e62]; simp only [B0,reduceIte,a9],rfl,by simp only [hg49,B0,reduceIte,a9]⟩
    ·rw [iteF hg58] at hx60
     obtain ⟨x63,hx64,hF65⟩:=qi hx60
     simp only [hg58,qf (g:=42),q8,f42,qd,f45,ji,B0,reduceIte,a9]
     refine qg (v := .ref (cI x63) 0) (kw hx64 rfl) ?_
     simp only [hg58,qf (g:=42),q8,qn,B0,reduceIte,a9]
     refine qg (v := .int .i64 x63) rfl ?_
     simp only [hg58,qf (g:=42),q8,zi,B0,reduceIte,a9]
     refine ju rfl (ql qs zh) (qfz (fun b hb=>decide_eq_true hb) x63 _ rfl) ?_
     simp only [hg58,qf (g:=42),q8,qd,B0,reduceIte,a9]
     refine jj 3 (fun fr' h'=>Sep h' (geL h.length) ([])∧fr' 51 = .bool ((wg x63) &&
       (wg target_1))∧fr' 31 = .int .i64 s37∧fr' 35 = .bool (decide (s37<(t6 n8:Int)))∧fr' 42 = .bool (decide (x53=target_1)))
       (fun Q66 hN67=>?_) ?_
     ·simp only [t8,a0d]
      simp only [qf (g:=48),B0,reduceIte,a9]
      refine zj (t:=(wg x63)) (fun hg68=>?_) (fun hg68=>?_)
      ·simp only [hg68,qf (g:=48),zl,f43,qd,zi,B0,reduceIte,a9]
       refine ju rfl (ql qs zh) (qfz (fun b hb=>decide_eq_true hb) target_1 _ rfl) ?_
       simp only [hg58,qf (g:=42),q8,hg68,qx,qb,zo,qa,qo,B0,reduceIte,a9]
       exact hN67 _ _ ⟨hS41,by rw [yk hg68]; simp only [B0,reduceIte,a9],rfl,by simp only [hg49,B0,reduceIte,a9],by simp only [hg58,B0,
         reduceIte,a9]⟩
      ·simp only [hg68,qf (g:=48),jh,hg58,qf (g:=42),q8,qx,qb,zn,qa,qo,B0,reduceIte,
        a9]
       exact hN67 _ _ ⟨hS41,by rw [yj hg68]; simp only [B0,reduceIte,a9],rfl,by simp only [hg49,B0,reduceIte,a9],by simp only [hg58,B0,
         reduceIte,a9]⟩
     rintro fr69 h74 ⟨hS75,f70,f71,f72,f73⟩
     simp only [t9,a0c]
     simp only [f72,hg49,qf (g:=35),zl,f73,hg58,qx,qb,zn,f70,qa,qo,B0,reduceIte,a9]
     have e76:=qh hF65
     exact hN57 _ _ ⟨hS75,by rw [←e76]; simp only [B0,reduceIte,a9],f71,by simp only [f72,hg49,B0,reduceIte,a9]⟩
   rintro fr77 h81 ⟨hS82,f78,f79,f80⟩
   simp only [t9,a0c]
   simp only [f80,hg49,qx,qb,zo,f78,qa,qo,B0,reduceIte,a9]
   have e83:=qh hF61
   exact hN48 _ _ ⟨hS82,by rw [←e83]; simp only [B0,reduceIte,a9],f79⟩
  ·rw [iteF hg49] at hx51
   simp only [hg49,qf (g:=35),jh,qf (g:=42),qbp,qf (g:=48),qx,qb,zn,qa,qo,B0,reduceIte,
     a9]
   have e84:=qh hx51
   exact hN48 _ _ ⟨hS41,by rw [←e84]; simp only [B0,reduceIte,a9],rfl⟩
 rintro fr85 h88 ⟨hS89,f86,f87⟩
 simp only [t9,a0c]
 simp only [f87,qd,f86,qa,qw,B0,reduceIte,a9]
 have he:=qh hF52
 subst he
 simp only [qx3,B0,reduceIte,a9]
 exact q9r (ql rfl (ql rfl zh))
theorem qjx {W:Nat→Bool}{h:Heap}{lo:Nat→Prop}{S0:List Obj} (hW:∀ b,
  lo b→W b=true) (pv0:XV) (pc0:List Obj) (s_0:List Int) (ph0:SlF cI 1 3 pv0 s_0 pc0) (i_1:Int) (j_2:Int) (r:List Int)
  (hF:qbw s_0 i_1 j_2=some r) (hS:Sep h lo (pc0++S0)) : Ret E W 103 [pv0,.int .i64 i_1,.int .i64 j_2] h (fun v h'=>∃ rv0 rc0,
  v=rv0∧SlF cI 1 3 rv0 r rc0∧Sep h' lo (rc0++S0)):=zac (f:=cI) (n:=1) (ty:=3) (bytes:=8) (z:=[(.int .i64 0)]) rfl (fun _=>rfl)
  (fun _=>rfl) rfl rfl rfl hW ph0 hF hS
end Go.Proofs.Ytohofoampalhoaa.X
namespace Go.Proofs.Ytohofoampalhoaa.X
open Go
theorem qjb {W:Nat→Bool}{h:Heap}{lo:Nat→Prop}{S0:List Obj} (hW:∀ b,
  lo b→W b=true) (k:Nat) (pb0:Nat) (f0:Cluster) (d9:XV) (i4:List Obj) (i8:SlF cI 1 3 d9 f0.Truth.InStep i4) (e8:XV) (l7:List Obj)
  (l6:SlN Node.R 6 68 e8 f0.Nodes l7) (f4:XV) (i5:List Obj) (l5:SlF qm 2 92 f4 f0.Acked i5) (d8:ClusterStep) (r:Bool × Cluster)
  (hF:uo k f0 d8=some r) (hS:Sep h lo ([Blk1 pb0 [.int .i64 f0.Truth.Epoch,.int .i64 f0.Truth.Leader,d9,e8,
  f4] 28]++(i4++(l7++(i5++(S0)))))) : Ret E W 100 [.ptr pb0 0,.agg [.int .i64 d8.Kind,.int .i64 d8.K,.int .i64 d8.To,
  .int .i64 d8.N]] h (fun v h'=>∃ iv0_2 ic0_2 ic0_3 ic0_4,
  v = .bool r.1∧SlF cI 1 3 iv0_2 r.2.Truth.InStep ic0_2∧SlN Node.R 6 68 e8 r.2.Nodes ic0_3∧SlF qm 2 92 f4 r.2.Acked ic0_4∧Sep h' lo
  ([Blk1 pb0 [.int .i64 r.2.Truth.Epoch,.int .i64 r.2.Truth.Leader,iv0_2,e8,f4] 28]++(ic0_2++(ic0_3++(ic0_4++(S0)))))):=by
 refine Ret.of (fn:=qsa) rfl (Run.of ?_)
 unfold uo at hF
 have zf0:zb [.ptr pb0 0,.agg [.int .i64 d8.Kind,.int .i64 d8.K,.int .i64 d8.To,.int .i64 d8.N]] 0 = .ptr pb0 0:=rfl
 have zf1:zb [.ptr pb0 0,.agg [.int .i64 d8.Kind,.int .i64 d8.K,.int .i64 d8.To,.int .i64 d8.N]] 1 = .agg [.int .i64 d8.Kind,.int .i64 d8.K,.int .i64 d8.To,
   .int .i64 d8.N]:=rfl
 generalize zb [.ptr pb0 0,.agg [.int .i64 d8.Kind,.int .i64 d8.K,.int .i64 d8.To,.int .i64 d8.N]]=fr0 at zf0 zf1 ⊢
 simp only [qsa,qe,qc,j7,zf1,B0,reduceIte,a9]
 refine jm (cs:=[.int .i64 d8.Kind,.int .i64 d8.K,.int .i64 d8.To,.int .i64 d8.N]) hS rfl rfl rfl (fun b1 h2 hS3=>?_)
 simp only [qd,qa,B0,reduceIte,a9]
 refine jc hS3 hW (by simp only [B0,reduceIte,a9]) (fun h5 hS6=>?_)
 simp only [jd,qrc,qe,js,zf0,zv,qk,kp,zz,z9,s5,s9,t5,zd,zu,B0,reduceIte,
   a9]
 refine qt (v:=e8) ((jt (a0r _ _ _ hS6)).trans rfl) ?_
 simp only [z9,qk,s5,s9,t5,qr,zu,B0,reduceIte,a9]
 refine qt (v := .int .i64 d8.K) rfl ?_
 obtain ⟨x7,hx8,hF9⟩:=qi hF
 simp only [yv,B0,reduceIte,a9]
 obtain ⟨b10,hb11⟩:=SlN.isrow l6 (ka hx8)
 refine qt (SlN.ia l6 hb11 hx8) ?_
 simp only [zv,qk,zc,qq4,qe,js,zf0,kp,zz,z9,s5,s9,t5,zd,zu,B0,reduceIte,
   a9]
 refine qt (v:=d9) ((jt (a0r _ _ _ hS6)).trans rfl) ?_
 simp only [z9,qk,s5,s9,t5,qr,zu,B0,reduceIte,a9]
 refine qt (v := .int .i64 d8.To) rfl ?_
 obtain ⟨v12,hx13,hF14⟩:=qi hF9
 simp only [y9,B0,reduceIte,a9]
 refine qc3 rfl (ql (SlF.snap i8 (a0l hS6) rfl (fun _=>rfl) (fun _=>rfl)) (ql qs zh)) (qgv
   (fun b hb=>decide_eq_true hb) k f0.Truth.InStep d8.To v12 hx13) ?_
 simp only [zv,qk,qvq,qcb,qb1,zc,qq3,qe,qc,qq,qb,s5,s9,t5,qr,qn,B0,
   reduceIte,a9]
 refine qg (v := .int .i64 d8.Kind) rfl ?_
 simp only [qv,qb,k7,qa,qrf,qy,B0,reduceIte,a9]
 obtain ⟨oc23,hX24,hk25⟩:=jy hF14
 refine qf4 (t:=(decide (d8.Kind=5))) (fun fr' h'=>∃ s,oc23 = .nxt s∧∃ v17 c18 c21,
   fr' 0 = .ptr pb0 0∧fr' 5 = .ptr b10 (d8.K.toNat*6)∧SlF cI 1 3 v17 s.1.Truth.InStep c18∧SlN Node.R 6 68 e8 s.2 c21∧Sep h' lo
   ([Blk1 pb0 [.int .i64 s.1.Truth.Epoch,.int .i64 s.1.Truth.Leader,v17,e8,f4] 28]++(c21++(c18++(i5++(S0)))))) (fun Q26 hN27 hR28 hE29=>⟨fun hc30=>?_,
   fun hc30=>?_⟩) ?_
 ·rw [iteT hc30] at hX24
  simp only [qwi,qe,qc,qd,kh,qb,kz,B0,reduceIte,a9]
  refine jj 6 (fun fr' h'=>Sep h' lo ([Blk1 pb0 [.int .i64 f0.Truth.Epoch,.int .i64 f0.Truth.Leader,d9,e8,
    f4] 28]++(l7++(i4++(i5++(S0)))))∧fr' 40 = .bool ((!v12.2)||(decide (d8.To=d8.K)))∧fr' 0 = .ptr pb0 0∧fr' 5 = .ptr b10
    (d8.K.toNat*6)∧fr' 6 = .int .i64 v12.1) (fun Q31 hN32=>?_) ?_
  ·simp only [t8,a0d]
   simp only [qf (g:=34),B0,reduceIte,a9]
   refine zj (t:=(!v12.2)) (fun hg33=>?_) (fun hg33=>?_)
   ·simp only [hg33,qf (g:=34),jr,qx,qb,zo,qa,qo,B0,reduceIte,a9]
    exact hN32 _ _ ⟨(a0e (a0e (a0k (a0e hS6)))),by rw [orT hg33]; simp only [B0,reduceIte,a9],zf0,rfl,rfl⟩
   ·simp only [hg33,qf (g:=34),q8,qq,qb,s5,s9,t5,qr,qn,B0,reduceIte,a9]
    refine qg (v := .int .i64 d8.To) rfl ?_
    simp only [hg33,qf (g:=34),q8,qq,qb,s5,s9,t5,qr,qn,B0,reduceIte,a9]
    refine qg (v := .int .i64 d8.K) rfl ?_
    simp only [hg33,qf (g:=34),q8,qv,qb,k7,qx,zn,qa,qo,B0,reduceIte,a9]
    exact hN32 _ _ ⟨(a0e (a0e (a0k (a0e hS6)))),by rw [orF hg33]; simp only [B0,reduceIte,a9],zf0,rfl,rfl⟩
  rintro fr34 h39 ⟨hS40,f35,f36,f37,f38⟩
  simp only [t9,a0c]
  simp only [qa,f35,qy,B0,reduceIte,a9]
  refine qu (t:=((!v12.2)||(decide (d8.To=d8.K)))) (fun hc41=>?_) (fun hc41=>?_)
  ·rw [iteT hc41] at hX24
   simp only [qe,qc,qd,qa,qw,B0,reduceIte,a9]
   have e42:=qh hX24
   subst e42
   have hk25':=hk25
   dsimp only [jnO] at hk25'
   apply hR28
   have he:=qh hk25'
   subst he
   simp only [q9,B0,reduceIte,a9]
   exact ⟨d9,i4,l7,i5,by first | trivial | rfl,i8,l6,l5,(a0e (a0e (a0k (a0e hS40))))⟩
  rw [iteF hc41] at hX24
  simp only [zf,qvw,qc,f36,qd,yu,qb,zz,qq,s5,s9,t5,zd,qn,B0,reduceIte,
    a9]
  refine qg (v:=d9) ((jt (a0r _ _ _ hS40)).trans rfl) ?_
  obtain ⟨v43,hx44,hF45⟩:=qi hX24
  simp only [f38,qd,qv,qb,yx,zi,B0,reduceIte,a9]
  refine wc rfl (qjx hW d9 i4 f0.Truth.InStep i8 v12.1 (IntKind.wrap .i64 (v12.1+1)) v43 hx44 (a0k hS40)) ?_
  rintro v46 h50 ⟨_,c47,rfl,hv48,hS51⟩
  simp only [yu,qb,zz,qq,s5,s9,t5,zd,zp,B0,reduceIte,a9]
  refine zm (us:=[v46]) (j8 (a0g hv48)) (cs':=[.int .i64 f0.Truth.Epoch,.int .i64 f0.Truth.Leader,v46,e8,
    f4]) (a0l hS51) hW rfl (qj (a0g hv48) zq) (nle rfl) rfl (fun h52 hS53=>?_)
  simp only [qa,qo,B0,reduceIte,a9]
  have e54:=qh hF45
  exact hN27 _ _ ⟨_,e54.symm,v46,c47,l7,f36,f37,hv48,l6,(a0e (a0e (a0k (a0e hS53))))⟩
 ·rw [iteF hc30] at hX24
  obtain ⟨c55,cs56,os57,hv58,hR59,hS60⟩:=a2w (a26 l6 hb11 Node.RO.len) hx8 z7 Node.RO.len (a0k hS6)
  obtain ⟨v62,c63,v66,c67,v70,c71,hv64,hv68,hv72,rfl,rfl⟩:=hR59
  have hS61:=a2x hS60
  simp only [qrm,qe,qc,qd,qa,qq7,yu,qb,zz,qq,s5,s9,t5,zd,qn,B0,
    reduceIte,a9]
  refine qg (v:=v66) ((a2s (o:=3) hv58 rfl hx8 hS61 (nle rfl)).trans rfl) ?_
  simp only [zy,qb,a2i hv68,qd,qa,B0,reduceIte,a9]
  obtain ⟨oc78,hX80,hk81⟩:=jy hX24
  simp only [qvb]
  refine qfn (σ:=Int) (fun i76 s119=>wd x7 i76 s119) (fun s fr' h'=>fr' 0 = .ptr pb0 0∧fr' 3 = .ref [.int .i64 d8.Kind,.int .i64 d8.K,
    .int .i64 d8.To,.int .i64 d8.N] 0∧fr' 5 = .ptr b10 (d8.K.toNat*6)∧fr' 6 = .int .i64 v12.1∧fr' 7 = .bool v12.2∧fr' 8 = .int .i64 s∧fr' 57=v66∧Sep h' lo
    ([Blk1 pb0 [.int .i64 f0.Truth.Epoch,.int .i64 f0.Truth.Leader,d9,e8,f4] 28]++(c55++(c67++(i4++(i5++(c63++(c71++(S0))))))))) hX80 ⟨zf0,
    rfl,rfl,rfl,rfl,rfl,rfl,(a0v (a03 (a03 (a0v (a0v (a0k (a0e hS61)))))))⟩ (by simp only [B0,reduceIte,a9]) (by simp only [B0,
    reduceIte,a9]) (fun _ _ _ h=>h) rfl rfl (fun _ _ _ _ h=>h) (fun _ _ _ _ h=>h) (fun _ _ _ _ h=>h) (by decide) ?_ ?_
  ·rintro i76 s75 fr90 h91 hx100 ⟨f93,f94,f95,f96,f97,f98,f99,hS92⟩ f101 f102 oc79 hF82 hr83 Q84 hN85 hB89 hK86 hR87 hE88
   unfold wd at hF82
   obtain ⟨zg,hx104,hF105⟩:=qi hF82
   simp only [qtd,qe,qc,f99,f101,ji,B0,reduceIte,a9]
   obtain ⟨b106,hb107⟩:=a13 hv68 (ka hx104)
   refine qg (a2u hv68 hb107 hx104) ?_
   simp only [qn,B0,reduceIte,a9]
   refine qg (v := .agg [.int .i64 zg.Epoch,.int .i64 zg.Value]) ((SlF.lds (o:=0) hv68 (a0k hS92) hb107 hx104 (fun _=>rfl) (nle rfl)).trans rfl) ?_
   simp only [kc,B0,reduceIte,a9]
   refine jp hS92 (fun b108 h109 hS110=>?_)
   simp only [zp,B0,reduceIte,a9]
   refine zm (us:=[.int .i64 zg.Epoch,.int .i64 zg.Value]) rfl (cs':=[.int .i64 zg.Epoch,
     .int .i64 zg.Value]) hS110 hW rfl rfl (nle rfl) rfl (fun h112 hS113=>?_)
   simp only [qa,B0,reduceIte,a9]
   refine jc hS113 hW (by simp only [B0,reduceIte,a9]) (fun h114 hS115=>?_)
   simp only [jd,qtv,qe,js,z9,qk,s5,s9,t5,qr,zu,B0,reduceIte,a9]
   refine qt (v := .int .i64 zg.Epoch) rfl ?_
   simp only [f95,zv,qk,kp,zz,z9,s5,s9,t5,zd,zu,B0,reduceIte,a9]
   refine qt (v := .int .i64 x7.View.Epoch) ((a2s (o:=0) hv58 rfl hx8 (a0l hS115) (nle rfl)).trans rfl) ?_
   simp only [yg,qk,k6,zc,qvj,qy,B0,reduceIte,a9]
   refine qu (t:=(decide (zg.Epoch<x7.View.Epoch))) (fun hc116=>?_) (fun hc116=>?_)
   ·rw [iteT hc116] at hF105
    simp only [qc,f98,qd,qv,qb,yx,qa,qo,B0,reduceIte,a9]
    have e117:=qh hF105
    exact hN85 _ _ _ e117.symm ⟨f93,f94,f95,f96,f97,rfl,f99,(a0v (a0v (a0v (a0v (a0v (a0v (a0v hS115)))))))⟩ (f101) (f102)
   rw [iteF hc116] at hF105
   simp only [zf,qo,B0,reduceIte,a9]
   have e118:=qh hF105
   exact hN85 _ _ _ e118.symm ⟨f93,f94,f95,f96,f97,f98,f99,(a0v (a0v (a0v (a0v (a0v (a0v (a0v hS115)))))))⟩ (f101) (f102)
  rintro s120 fr121 h122 rfl ⟨f124,f125,f126,f127,f128,f129,f130,hS123⟩
  dsimp only [jnO] at hk81
  unfold u1 at hk81
  simp only [quw,qe,js,f128,zv,qk,B0,reduceIte,a9]
  obtain ⟨v134,hx135,hF136⟩:=qi hk81
  refine wu 14 (fun fr' h'=>Sep h' lo ([Blk1 pb0 [.int .i64 f0.Truth.Epoch,.int .i64 f0.Truth.Leader,d9,e8,
    f4] 28]++(c55++(i4++(i5++(c63++(c67++(c71++(S0))))))))∧fr' 89 = .bool v134∧fr' 0 = .ptr pb0 0∧fr' 3 = .ref [.int .i64 d8.Kind,
    .int .i64 d8.K,.int .i64 d8.To,.int .i64 d8.N] 0∧fr' 5 = .ptr b10 (d8.K.toNat*6)∧fr' 6 = .int .i64 v12.1∧fr' 8 = .int .i64 s120) rfl (fun Q131 hN132=>?_) ?_
  ·simp only [t8,a0d]
   simp only [qp (g:=75),B0,reduceIte,a9]
   refine jq (t:=v12.2) (fun hg133=>?_) (fun hg133=>?_)
   ·rw [iteT hg133] at hx135
    simp only [hg133,qp (g:=75),qaj,jf,qk,zo,zc,qo,B0,reduceIte,a9]
    have e137:=qh hx135
    exact hN132 _ _ ⟨(a0v (a0v (a0v (a0v (a0v (a0e (a0v hS123))))))),by rw [←e137]; simp only [B0,reduceIte,a9],f124,f125,f126,f127,
      f129⟩
   ·rw [iteF hg133] at hx135
    simp only [hg133,qp (g:=75),jg,f126,zv,qk,kp,zz,z9,s5,s9,t5,zd,zu,B0,
      reduceIte,a9]
    refine qt (v:=v70) ((a2s (o:=4) hv58 rfl hx8 (a0l hS123) (nle rfl)).trans rfl) ?_
    simp only [hg133,qp (g:=75),jg,f125,z9,qk,s5,s9,t5,qr,zu,B0,reduceIte,a9]
    refine qt (v := .int .i64 d8.To) rfl ?_
    obtain ⟨x138,hx139,hF140⟩:=qi hx135
    simp only [hg133,qp (g:=75),jg,yv,B0,reduceIte,a9]
    obtain ⟨b141,hb142⟩:=a13 hv72 (ka hx139)
    refine qt (a2u hv72 hb142 hx139) ?_
    simp only [hg133,qp (g:=75),jg,zu,B0,reduceIte,a9]
    refine qt (v := .int .i64 x138) ((SlF.ld (o:=0) hv72 (a0v hS123) hb142 hx139 (fun _=>rfl) (nle rfl)).trans rfl) ?_
    simp only [hg133,qp (g:=75),jg,f126,zv,qk,kp,zz,z9,s5,s9,t5,zd,zu,B0,
      reduceIte,a9]
    refine qt (v := .int .i64 x7.Told) ((a2s (o:=5) hv58 rfl hx8 (a0l hS123) (nle rfl)).trans rfl) ?_
    simp only [hg133,qp (g:=75),jg,yg,qk,k6,jf,zn,zc,qo,B0,reduceIte,a9]
    have e143:=qh hF140
    exact hN132 _ _ ⟨(a0v (a0v (a0v (a0v (a0v (a0e (a0v hS123))))))),by rw [←e143]; simp only [B0,reduceIte,a9],f124,f125,f126,f127,
      f129⟩
  rintro fr144 h151 ⟨hS152,f145,f146,f147,f148,f149,f150⟩
  simp only [t9,a0c]
  simp only [f145,zv,qk,B0,reduceIte,a9]
  obtain ⟨v156,hx157,hF158⟩:=qi hF136
  refine wu 11 (fun fr' h'=>Sep h' lo ([Blk1 pb0 [.int .i64 f0.Truth.Epoch,.int .i64 f0.Truth.Leader,d9,e8,
    f4] 28]++(c55++(i4++(i5++(c63++(c67++(c71++(S0))))))))∧fr' 101 = .bool v156∧fr' 0 = .ptr pb0 0∧fr' 3 = .ref [.int .i64 d8.Kind,
    .int .i64 d8.K,.int .i64 d8.To,.int .i64 d8.N] 0∧fr' 5 = .ptr b10 (d8.K.toNat*6)∧fr' 6 = .int .i64 v12.1) rfl (fun Q153 hN154=>?_) ?_
  ·simp only [t8,a0d]
   simp only [qp (g:=90),B0,reduceIte,a9]
   refine jq (t:=v134) (fun hg155=>?_) (fun hg155=>?_)
   ·rw [iteT hg155] at hx157
    simp only [hg155,qp (g:=90),qaj,jf,qk,zo,zc,qo,B0,reduceIte,a9]
    have e159:=qh hx157
    exact hN154 _ _ ⟨(a0v (a0v (a0v (a0v (a0v (a0v (a0v hS152))))))),by rw [←e159]; simp only [B0,reduceIte,a9],f146,f147,f148,f149⟩
   ·rw [iteF hg155] at hx157
    simp only [hg155,qp (g:=90),jg,f148,zv,qk,kp,zz,z9,s5,s9,t5,zd,zu,B0,
      reduceIte,a9]
    refine qt (v:=v70) ((a2s (o:=4) hv58 rfl hx8 (a0l hS152) (nle rfl)).trans rfl) ?_
    simp only [hg155,qp (g:=90),jg,f147,z9,qk,s5,s9,t5,qr,zu,B0,reduceIte,a9]
    refine qt (v := .int .i64 d8.To) rfl ?_
    obtain ⟨x160,hx161,hF162⟩:=qi hx157
    simp only [hg155,qp (g:=90),jg,yv,B0,reduceIte,a9]
    obtain ⟨b163,hb164⟩:=a13 hv72 (ka hx161)
    refine qt (a2u hv72 hb164 hx161) ?_
    simp only [hg155,qp (g:=90),jg,zu,B0,reduceIte,a9]
    refine qt (v := .int .i64 x160) ((SlF.ld (o:=0) hv72 (a0v hS152) hb164 hx161 (fun _=>rfl) (nle rfl)).trans rfl) ?_
    simp only [hg155,qp (g:=90),jg,f150,zv,qk,yg,k6,jf,zn,zc,qo,B0,reduceIte,a9]
    have e165:=qh hF162
    exact hN154 _ _ ⟨(a0v (a0v (a0v (a0v (a0v (a0v (a0v hS152))))))),by rw [←e165]; simp only [B0,reduceIte,a9],f146,f147,f148,f149⟩
  rintro fr166 h172 ⟨hS173,f167,f168,f169,f170,f171⟩
  simp only [t9,a0c]
  simp only [zc,f167,qy,B0,reduceIte,a9]
  refine qu (t:=v156) (fun hc174=>?_) (fun hc174=>?_)
  ·rw [iteT hc174] at hF158
   simp only [qe,qc,qd,qa,qw,B0,reduceIte,a9]
   have e175:=qh hF158
   subst e175
   have hk25':=hk25
   dsimp only [jnO] at hk25'
   apply hR28
   obtain ⟨c176,hv177,hS178⟩:=a1x (c:=c55) (os:=c63++(c67++(c71))) hv58 rfl hx8 z7 (Node.RI (x:=x7) hv64 hv68 hv72) (a1p (c1:=c63) (c2:=c67)
     (c3:=c71) (a0i (a0v (a0v (a0v hS173)))))
   have hv179:=a1s hv177
   have he:=qh hk25'
   subst he
   simp only [q9,B0,reduceIte,a9]
   exact ⟨d9,i4,c176,i5,by first | trivial | rfl,i8,hv179,l5,(a0e (a0e (a0l (a0e hS178))))⟩
  rw [iteF hc174] at hF158
  simp only [zf,quy,js,f168,qh8,qk,zv,kp,zz,z9,s5,s9,t5,zd,zu,B0,reduceIte,
    a9]
  refine qt (v:=d9) ((jt (a0r _ _ _ hS173)).trans rfl) ?_
  simp only [f171,zv,qk,f169,z9,s5,s9,t5,qr,zu,B0,reduceIte,a9]
  refine qt (v := .int .i64 d8.To) rfl ?_
  simp only [qdb,evp,B0,reduceIte,a9]
  refine qdx (n:=1) (f:=cI) [d8.To] hS173 rfl rfl (fun v181 c182 h183 hv184 hS185 hq180=>?_)
  obtain ⟨v187,hx188,hF189⟩:=qi hF158
  simp only [y9,B0,reduceIte,a9]
  refine qw3 rfl (qjz hW d9 i4 f0.Truth.InStep i8 v12.1 v181 c182 [d8.To] hv184 v187 hx188 (a0e hS185)) ?_
  rintro v190 h196 ⟨_,c191,c194,rfl,hv192,hv195,hS197⟩
  simp only [kp,qk,zz,z9,s5,s9,t5,zd,qds,B0,reduceIte,a9]
  refine qcg (us:=[v190]) (j8 (a0g hv192)) (cs':=[.int .i64 f0.Truth.Epoch,.int .i64 f0.Truth.Leader,v190,e8,
    f4]) (a0k hS197) hW rfl (qj (a0g hv192) zq) (nle rfl) rfl (fun h198 hS199=>?_)
  simp only [zc,qo,B0,reduceIte,a9]
  obtain ⟨c200,hv201,hS202⟩:=a1x (c:=c55) (os:=c63++(c67++(c71))) hv58 rfl hx8 z7 (Node.RI (x:=x7) hv64 hv68 hv72) (a1p (c1:=c63) (c2:=c67)
    (c3:=c71) (a0v (a0j (a0j (a0j hS199)))))
  have hv203:=a1s hv201
  have e204:=qh hF189
  exact hN27 _ _ ⟨_,e204.symm,v190,c191,c200,f168,f170,hv192,hv203,(a0e (a0k (a0e (a0e (a0s (a0e hS202))))))⟩
 rintro fr206 h207 ⟨⟨s15,s20⟩,rfl,v17,c18,c21,f209,f210,hv19,hv22,hS208⟩
 dsimp only [jnO] at hk25
 dsimp only at *
 unfold uy at hk25
 simp only [qrh,qe,qc,f210,qd,yh,evp,B0,reduceIte,a9]
 refine kx (n:=1) (f:=cI) ([] : List Int) hS208 rfl rfl (fun v211 c212 h213 hv214 hS215=>?_)
 simp only [f209,qd,yu,qb,zz,qq,s5,s9,t5,zd,qn,B0,reduceIte,a9]
 refine qg (v:=v17) ((jt (a0r _ _ _ (a0l hS215))).trans rfl) ?_
 simp only [wt,B0,reduceIte,a9]
 obtain ⟨l217,hx218,hF219⟩:=qi hk25
 refine yn (f:=cI) hv214 hS215 hW (fun _=>rfl) (fun _=>rfl) (SlF.first hv19 (a0e hS215) (fun _=>rfl)) hx218 (fun v220 c221 h222 hv223 hS224=>?_)
 obtain ⟨x228,hx229,hF230⟩:=qi hF219
 obtain ⟨c231,cs232,os233,hv234,hR235,hS236⟩:=a2w (a26 hv22 hb11 Node.RO.len) hx229 z7 Node.RO.len (a0k hS224)
 obtain ⟨v238,c239,v242,c243,v246,c247,hv240,hv244,hv248,rfl,rfl⟩:=hR235
 have hS237:=a2x hS236
 simp only [yu,qb,zz,qq,s5,s9,t5,zd,zp,B0,reduceIte,a9]
 refine ws (n:=6) (us:=[v220]) (cs:=[.int .i64 x228.View.Epoch,.int .i64 x228.View.Leader,v238,v242,v246,
   .int .i64 x228.Told]) (o:=2) (cs':=[.int .i64 x228.View.Epoch,.int .i64 x228.View.Leader,v220,v242,v246,
   .int .i64 x228.Told]) (j8 (a0g hv223)) hv234 rfl hx229 hS237 hW rfl (qj (a0g hv223) zq) (nle rfl) rfl (fun c250 h226 hv251 hS227=>?_)
 simp only [qa,qe,qc,qd,qw,B0,reduceIte,a9]
 obtain ⟨c252,hv253,hS254⟩:=a3u (e':=(Node.mk (View.mk x228.View.Epoch x228.View.Leader l217) x228.Log x228.Known x228.Told)) (c:=c250) (os:=c221++(c243 ++
   (c247))) hv251 rfl hx229 z7 (Node.RI (x:=(Node.mk (View.mk x228.View.Epoch x228.View.Leader l217) x228.Log x228.Known x228.Told)) hv223 hv244 hv248) (a1p
   (c1:=c221) (c2:=c243) (c3:=c247) (a0e (a0i (a0e (a0e hS227)))))
 have hx255:=kf (x':=(Node.mk (View.mk x228.View.Epoch x228.View.Leader l217) x228.Log x228.Known x228.Told)) hx229
 have hv256:=a1s hv253
 have he:=qh hF230
 subst he
 simp only [q9,B0,reduceIte,a9]
 exact ⟨v17,c18,c252,i5,by first | trivial | rfl,hv19,hv256,l5,(a0e (a0e (a0l (a0e (a0s (a0l hS254))))))⟩
end Go.Proofs.Ytohofoampalhoaa.X
