/- The functions' code comes to what the plain functions say (6). -/
import Derived.Test.YtohofoampalhoaaXMH5
open Go.IntKind renaming wrap→a0a
open List renaming append_assoc→a0f,drop_succ_cons→t9,drop_zero→a0c,length→t6,nil_append→a0z,set→a1u,take_succ_cons→t8,take_zero→a0d
open Nat renaming add_zero→t5,reduceAdd→s5,reduceEqDiff→a9,zero_add→s9
open Go.Proofs.Ytohofoampalhoaa.X.Sep renaming bk→a0r,dc→a0s,m1→a0l,m2→a0k,m3→a0e,m4→a0i,m5→a03,m6→a0v,ni3→a1p,nil→a1q,no3→a2x
open Go.Proofs.Ytohofoampalhoaa.X.SlF renaming free1→a1r,ia→a2u,isrow→a13,nil→a25,one→a0g,pf→a2p,plen→a2i,snap→a06
open Go.Proofs.Ytohofoampalhoaa.X.SlG renaming cls0→a1x,cls→a3u,ld→a2s,opn→a2w,toN→a1s
open Go.Proofs.Ytohofoampalhoaa.X.SlN renaming free1→a4f,one→a10,toG→a26
set_option linter.unusedVariables false
set_option linter.unusedSimpArgs false
set_option maxRecDepth 100000
namespace Go.Proofs.Ytohofoampalhoaa.X
open Go
theorem qk3 {W:Nat→Bool}{h:Heap}{lo:Nat→Prop}{S0:List Obj} (hW:∀ b,
  lo b→W b=true) (k:Nat) (pb0:Nat) (f0:Cluster) (d9:XV) (i4:List Obj) (i8:SlF cI 1 3 d9 f0.Truth.InStep i4) (e8:XV) (l7:List Obj)
  (l6:SlN Node.R 6 68 e8 f0.Nodes l7) (f4:XV) (i5:List Obj) (l5:SlF qm 2 92 f4 f0.Acked i5) (d8:ClusterStep) (r:Bool × Cluster)
  (hF:qbf k f0 d8=some r) (hS:Sep h lo ([Blk1 pb0 [.int .i64 f0.Truth.Epoch,.int .i64 f0.Truth.Leader,d9,e8,
  f4] 28]++(i4++(l7++(i5++(S0)))))) : Ret E W 91 [.ptr pb0 0,.agg [.int .i64 d8.Kind,.int .i64 d8.K,.int .i64 d8.To,
  .int .i64 d8.N]] h (fun v h'=>∃ iv0_2 ic0_2 ic0_3 iv0_4 ic0_4,
  v = .bool r.1∧SlF cI 1 3 iv0_2 r.2.Truth.InStep ic0_2∧SlN Node.R 6 68 e8 r.2.Nodes ic0_3∧SlF qm 2 92 iv0_4 r.2.Acked ic0_4∧Sep h' lo
  ([Blk1 pb0 [.int .i64 r.2.Truth.Epoch,.int .i64 r.2.Truth.Leader,iv0_2,e8,iv0_4] 28]++(ic0_2++(ic0_3++(ic0_4++(S0)))))):=by
 refine Ret.of (fn:=x91) rfl (Run.of ?_)
 unfold qbf at hF
 have zf0:zb [.ptr pb0 0,.agg [.int .i64 d8.Kind,.int .i64 d8.K,.int .i64 d8.To,.int .i64 d8.N]] 0 = .ptr pb0 0:=rfl
 have zf1:zb [.ptr pb0 0,.agg [.int .i64 d8.Kind,.int .i64 d8.K,.int .i64 d8.To,.int .i64 d8.N]] 1 = .agg [.int .i64 d8.Kind,.int .i64 d8.K,.int .i64 d8.To,
   .int .i64 d8.N]:=rfl
 generalize zb [.ptr pb0 0,.agg [.int .i64 d8.Kind,.int .i64 d8.K,.int .i64 d8.To,.int .i64 d8.N]]=fr0 at zf0 zf1 ⊢
 simp only [x91,qe,qc,j7,zf1,B0,reduceIte,a9]
 refine jm (cs:=[.int .i64 d8.Kind,.int .i64 d8.K,.int .i64 d8.To,.int .i64 d8.N]) hS rfl rfl rfl (fun b1 h2 hS3=>?_)
 simp only [qd,qa,B0,reduceIte,a9]
 refine jc hS3 hW (by simp only [B0,reduceIte,a9]) (fun h5 hS6=>?_)
 simp only [jd,qt5,qe,js,zf0,zv,qk,kp,zz,z9,s5,s9,t5,zd,zu,B0,reduceIte,
   a9]
 refine qt (v:=e8) ((jt (a0r _ _ _ hS6)).trans rfl) ?_
 simp only [z9,qk,s5,s9,t5,qr,zu,B0,reduceIte,a9]
 refine qt (v := .int .i64 d8.K) rfl ?_
 obtain ⟨x7,hx8,hF9⟩:=qi hF
 simp only [yv,B0,reduceIte,a9]
 obtain ⟨b10,hb11⟩:=SlN.isrow l6 (ka hx8)
 refine qt (SlN.ia l6 hb11 hx8) ?_
 obtain ⟨c12,cs13,os14,hv15,hR16,hS17⟩:=a2w (a26 l6 hb11 Node.RO.len) hx8 z7 Node.RO.len (a0k hS6)
 obtain ⟨v19,c20,v23,c24,v27,c28,hv21,hv25,hv29,rfl,rfl⟩:=hR16
 have hS18:=a2x hS17
 simp only [zv,qk,zc,qwx,qe,js,kp,zz,z9,s5,s9,t5,zd,zu,B0,reduceIte,
   a9]
 refine qt (v := .int .i64 x7.View.Leader) ((a2s (o:=1) hv15 rfl hx8 hS18 (nle rfl)).trans rfl) ?_
 simp only [z9,qk,s5,s9,t5,qr,zu,B0,reduceIte,a9]
 refine qt (v := .int .i64 d8.K) rfl ?_
 simp only [yg,qk,k7,zv,zc,qxt,qe,qc,qq,qb,s5,s9,t5,qr,qn,B0,reduceIte,
   a9]
 refine qg (v := .int .i64 d8.Kind) rfl ?_
 simp only [qa,qvf,kj,qvp,qe,qc,qv,qb,k7,qd,qvs,qy,B0,reduceIte,a9]
 refine qu (t:=(decide (d8.Kind=1))) (fun hc31=>?_) (fun hc31=>?_)
 ·rw [iteT hc31] at hF9
  simp only [q13,qe,js,zf0,zv,qk,kp,zz,z9,s5,s9,t5,zd,zu,B0,reduceIte,a9]
  refine qt (v:=d9) ((jt (a0r _ _ _ (a0i hS18))).trans rfl) ?_
  simp only [z9,qk,s5,s9,t5,qr,zu,B0,reduceIte,a9]
  refine qt (v := .int .i64 d8.K) rfl ?_
  obtain ⟨v32,hx33,hF34⟩:=qi hF9
  simp only [y9,B0,reduceIte,a9]
  refine qc3 rfl (ql (a06 i8 (a03 hS18) rfl (fun _=>rfl) (fun _=>rfl)) (ql qs zh)) (qb3
    (fun b hb=>decide_eq_true hb) f0.Truth.InStep d8.K v32 hx33) ?_
  simp only [qeu,qk,kz,zc,qy,B0,reduceIte,a9]
  refine qu (t:=(!v32)) (fun hc35=>?_) (fun hc35=>?_)
  ·rw [iteT hc35] at hF34
   simp only [qe,qc,qd,qa,qw,B0,reduceIte,a9]
   obtain ⟨c36,hv37,hS38⟩:=a1x (c:=c12) (os:=c20++(c24++(c28))) hv15 rfl hx8 z7 (Node.RI (x:=x7) hv21 hv25 hv29) (a1p (c1:=c20) (c2:=c24)
     (c3:=c28) (a0e (a0e (a0e (a0e hS18)))))
   have hv39:=a1s hv37
   have he:=qh hF34
   subst he
   simp only [q9,B0,reduceIte,a9]
   exact ⟨d9,i4,c36,f4,i5,by first | trivial | rfl,i8,hv39,l5,(a0e (a0e (a0l (a0e hS38))))⟩
  rw [iteF hc35] at hF34
  simp only [zf,q2t,qe,qc,zf0,qd,yu,qb,zz,qq,s5,s9,t5,zd,qn,B0,reduceIte,
    a9]
  refine qg (v := .int .i64 f0.Truth.Epoch) ((jt (a0r _ _ _ (a0i hS18))).trans rfl) ?_
  simp only [qv,qb,yx,yu,zz,qq,s5,s9,t5,zd,zp,B0,reduceIte,a9]
  refine zm (us:=[.int .i64 (a0a .i64 (f0.Truth.Epoch+1))]) rfl (cs':=[.int .i64 (a0a .i64 (f0.Truth.Epoch+1)),.int .i64 f0.Truth.Leader,
    d9,e8,f4]) (a0i hS18) hW rfl rfl (nle rfl) rfl (fun h40 hS41=>?_)
  simp only [qa,q1b,qe,qc,zf0,qd,qq,qb,s5,s9,t5,qr,qn,B0,reduceIte,a9]
  refine qg (v := .int .i64 d8.K) rfl ?_
  simp only [yu,qb,zz,qq,s5,s9,t5,zd,zp,B0,reduceIte,a9]
  refine zm (us:=[.int .i64 d8.K]) rfl (cs':=[.int .i64 (a0a .i64 (f0.Truth.Epoch+1)),.int .i64 d8.K,d9,e8,
    f4]) hS41 hW rfl rfl (nle rfl) rfl (fun h42 hS43=>?_)
  simp only [qa,qe,qc,qd,qw,B0,reduceIte,a9]
  obtain ⟨c44,hv45,hS46⟩:=a1x (c:=c12) (os:=c20++(c24++(c28))) hv15 rfl hx8 z7 (Node.RI (x:=x7) hv21 hv25 hv29) (a1p (c1:=c20) (c2:=c24)
    (c3:=c28) (a0i (a0i (a0i (a0i hS43)))))
  have hv47:=a1s hv45
  have he:=qh hF34
  subst he
  simp only [q9,B0,reduceIte,a9]
  exact ⟨d9,i4,c44,f4,i5,by first | trivial | rfl,i8,hv47,l5,(a0e (a0e (a0l (a0e hS46))))⟩
 rw [iteF hc31] at hF9
 simp only [qud,qe,qc,qv,qb,k7,qd,qa,qt9,qy,B0,reduceIte,a9]
 refine qu (t:=(decide (d8.Kind=2))) (fun hc48=>?_) (fun hc48=>?_)
 ·rw [iteT hc48] at hF9
  simp only [qs7,qe,js,zv,qk,kp,zz,z9,s5,s9,t5,zd,zu,B0,reduceIte,a9]
  refine qt (v := .agg [.int .i64 x7.View.Epoch,.int .i64 x7.View.Leader,v19]) ((SlG.lds (o:=0) hv15 rfl hx8 hS18 (nle rfl)).trans rfl) ?_
  simp only [zf0,zv,qk,kp,zz,z9,s5,s9,t5,zd,zu,B0,reduceIte,a9]
  refine qt (v := .agg [.int .i64 f0.Truth.Epoch,.int .i64 f0.Truth.Leader,d9]) ((zr (a0r _ _ _ (a0i hS18))).trans rfl) ?_
  obtain ⟨v49,hx50,hF51⟩:=qi hF9
  simp only [y9,B0,reduceIte,a9]
  refine qc3 rfl (ql (jo (ql qs (ql qs (ql (a06 hv21 (a0l hS18) rfl (fun _=>rfl) (fun _=>rfl)) zh)))) (ql (jo
    (ql qs (ql qs (ql (a06 i8 (a03 hS18) rfl (fun _=>rfl) (fun _=>rfl)) zh)))) zh)) (ql9
    (fun b hb=>decide_eq_true hb) x7.View f0.Truth v49 hx50) ?_
  simp only [zc,qy,B0,reduceIte,a9]
  refine qu (t:=v49) (fun hc52=>?_) (fun hc52=>?_)
  ·rw [iteT hc52] at hF51
   simp only [qe,qc,qd,qa,qw,B0,reduceIte,a9]
   obtain ⟨c53,hv54,hS55⟩:=a1x (c:=c12) (os:=c20++(c24++(c28))) hv15 rfl hx8 z7 (Node.RI (x:=x7) hv21 hv25 hv29) (a1p (c1:=c20) (c2:=c24)
     (c3:=c28) (a0e (a0e (a0e (a0e hS18)))))
   have hv56:=a1s hv54
   have he:=qh hF51
   subst he
   simp only [q9,B0,reduceIte,a9]
   exact ⟨d9,i4,c53,f4,i5,by first | trivial | rfl,i8,hv56,l5,(a0e (a0e (a0l (a0e hS55))))⟩
  rw [iteF hc52] at hF51
  simp only [zf,qxf,qe,js,zv,qk,kp,zz,z9,s5,s9,t5,zd,zu,B0,reduceIte,
    a9]
  refine qt (v := .int .i64 x7.View.Epoch) ((a2s (o:=0) hv15 rfl hx8 hS18 (nle rfl)).trans rfl) ?_
  simp only [zf0,zv,qk,kp,zz,z9,s5,s9,t5,zd,zu,B0,reduceIte,a9]
  refine qt (v := .int .i64 f0.Truth.Epoch) ((jt (a0r _ _ _ (a0i hS18))).trans rfl) ?_
  simp only [yg,qk,ya,zc,q25,qy,B0,reduceIte,a9]
  obtain ⟨c57,hv58,hS59⟩:=a1x (c:=c12) (os:=c20++(c24++(c28))) hv15 rfl hx8 z7 (Node.RI (x:=x7) hv21 hv25 hv29) (a1p (c1:=c20) (c2:=c24)
    (c3:=c28) (a0e (a0e (a0e (a0e hS18)))))
  have hv60:=a1s hv58
  obtain ⟨s61,hX65,hk66⟩:=qi hF51
  refine qf4 (t:=(decide (x7.View.Epoch≠f0.Truth.Epoch))) (fun fr' h'=>∃ c62,
    fr' 0 = .ptr pb0 0∧fr' 5 = .ptr b10 (d8.K.toNat*6)∧SlN Node.R 6 68 e8 s61 c62∧Sep h' lo ([Blk1 pb0 [.int .i64 f0.Truth.Epoch,.int .i64 f0.Truth.Leader,
    d9,e8,f4] 28]++(c62++(i4++(i5++(S0)))))) (fun Q67 hN68 hR69 hE70=>⟨fun hc71=>?_,fun hc71=>?_⟩) ?_
  ·rw [iteT hc71] at hX65
   simp only [q3i,qe,qc,qd,zf0,yu,qb,zz,qq,s5,s9,t5,zd,qn,B0,reduceIte,
     a9]
   refine qg (v:=e8) ((jt (a0r _ _ _ (a0l hS59))).trans rfl) ?_
   obtain ⟨l72,hx73,hF74⟩:=qi hX65
   simp only [zy,qb,SlN.len hv60,qnm,B0,reduceIte,a9]
   refine qh0 (f:=cI) (z:=(0:Int)) hS59 hx73 rfl (fun v75 c76 h77 hv78 hS79=>?_)
   obtain ⟨c83,cs84,os85,hv86,hR87,hS88⟩:=a2w (a26 hv60 hb11 Node.RO.len) hx8 z7 Node.RO.len (a0l hS79)
   obtain ⟨v90,c91,v94,c95,v98,c99,hv92,hv96,hv100,rfl,rfl⟩:=hR87
   have hS89:=a2x hS88
   simp only [yu,qb,zz,qq,s5,s9,t5,zd,zp,B0,reduceIte,a9]
   refine ws (n:=6) (us:=[v75]) (cs:=[.int .i64 x7.View.Epoch,.int .i64 x7.View.Leader,v90,v94,v98,
     .int .i64 x7.Told]) (o:=4) (cs':=[.int .i64 x7.View.Epoch,.int .i64 x7.View.Leader,v90,v94,v75,
     .int .i64 x7.Told]) (j8 (a0g hv78)) hv86 rfl hx8 hS89 hW rfl (qj (a0g hv78) zq) (nle rfl) rfl (fun c102 h81 hv103 hS82=>?_)
   simp only [qa,q5l,qe,qc,qd,yu,qb,zz,qq,s5,s9,t5,zd,zp,B0,reduceIte,
     a9]
   refine ws (n:=6) (us:=[.int .i64 0]) (cs:=[.int .i64 x7.View.Epoch,.int .i64 x7.View.Leader,v90,v94,v75,
     .int .i64 x7.Told]) (o:=5) (cs':=[.int .i64 x7.View.Epoch,.int .i64 x7.View.Leader,v90,v94,v75,
     .int .i64 0]) rfl hv103 rfl hx8 hS82 hW rfl rfl (nle rfl) rfl (fun c106 h104 hv107 hS105=>?_)
   simp only [qa,q61,qe,js,zf0,zv,qk,kp,zz,z9,s5,s9,t5,zd,zu,B0,reduceIte,
     a9]
   refine qt (v := .int .i64 f0.Truth.Leader) ((jt (a0r _ _ _ (a03 hS105))).trans rfl) ?_
   simp only [z9,qk,s5,s9,t5,qr,zu,B0,reduceIte,a9]
   refine qt (v := .int .i64 d8.K) rfl ?_
   simp only [yg,qk,k7,zc,q8k,qy,B0,reduceIte,a9]
   refine qu (t:=(decide (f0.Truth.Leader=d8.K))) (fun hc108=>?_) (fun hc108=>?_)
   ·rw [iteT hc108] at hF74
    simp only [q53,js,zv,qk,kp,zz,z9,s5,s9,t5,zd,zu,B0,reduceIte,a9]
    refine qt (v:=v75) ((a2s (o:=4) hv107 rfl hx8 hS105 (nle rfl)).trans rfl) ?_
    simp only [z9,qk,s5,s9,t5,qr,zu,B0,reduceIte,a9]
    refine qt (v := .int .i64 d8.K) rfl ?_
    simp only [zv,qk,kp,zz,z9,s5,s9,t5,zd,zu,B0,reduceIte,a9]
    refine qt (v:=v94) ((a2s (o:=3) hv107 rfl hx8 hS105 (nle rfl)).trans rfl) ?_
    obtain ⟨qnl,hx110,hF111⟩:=qi hF74
    simp only [qd8,qk,a2i hv96,yv,B0,reduceIte,a9]
    obtain ⟨b112,hb113⟩:=a13 hv78 (ka hx110)
    refine qt (a2u hv78 hb113 hx110) ?_
    simp only [qds,B0,reduceIte,a9]
    refine qkj (f:=cI) (x':=(t6 x7.Log:Int)) (o:=0) hv78 (a0i hS105) hW hb113 hx110 (fun _=>rfl) rfl rfl (nle rfl) rfl
      (fun c116 h114 hv117 hS115=>?_)
    have hx118:=kf (x':=(t6 x7.Log:Int)) hx110
    simp only [zc,qo,B0,reduceIte,a9]
    obtain ⟨c119,hv120,hS121⟩:=a3u (e':=(Node.mk x7.View x7.Log (a1u l72 d8.K.toNat (t6 x7.Log:Int)) 0)) (c:=c106) (os:=c91++(c95 ++
      (c116))) hv107 rfl hx8 z7 (Node.RI (x:=(Node.mk x7.View x7.Log (a1u l72 d8.K.toNat (t6 x7.Log:Int)) 0)) hv92 hv96 hv117) (a1p (c1:=c91)
      (c2:=c95) (c3:=c116) (a0e (a0e (a0e hS115))))
    have hx122:=kf (x':=(Node.mk x7.View x7.Log (a1u l72 d8.K.toNat (t6 x7.Log:Int)) 0)) hx8
    have hv123:=a1s hv120
    have e124:=qh hF111
    subst e124
    exact hN68 _ _ ⟨c119,zf0,rfl,hv123,(a0e (a0k (a0e (a0e (a0s (a0l hS121))))))⟩
   rw [iteF hc108] at hF74
   simp only [zf,qo,B0,reduceIte,a9]
   obtain ⟨c125,hv126,hS127⟩:=a3u (e':=(Node.mk x7.View x7.Log l72 0)) (c:=c106) (os:=c91++(c95++(c76))) hv107 rfl hx8 z7 (Node.RI (x :=
     (Node.mk x7.View x7.Log l72 0)) hv92 hv96 hv78) (a1p (c1:=c91) (c2:=c95) (c3:=c76) (a0e (a0e (a0e (a0i hS105)))))
   have hx128:=kf (x':=(Node.mk x7.View x7.Log l72 0)) hx8
   have hv129:=a1s hv126
   have e130:=qh hF74
   subst e130
   exact hN68 _ _ ⟨c125,zf0,rfl,hv129,(a0e (a0k (a0e (a0e (a0s (a0l hS127))))))⟩
  ·rw [iteF hc71] at hX65
   simp only [zf,qo,B0,reduceIte,a9]
   have e131:=qh hX65
   subst e131
   exact hN68 _ _ ⟨c57,zf0,rfl,hv60,(a0e (a0k (a0e (a0e hS59))))⟩
  rintro fr132 h133 ⟨c62,f135,f136,hv63,hS134⟩
  unfold ur at hk66
  simp only [qts,qe,qc,f136,qd,f135,yu,qb,zz,qq,s5,s9,t5,zd,qn,B0,reduceIte,
    a9]
  refine qg (v := .agg [.int .i64 f0.Truth.Epoch,.int .i64 f0.Truth.Leader,d9]) ((zr (a0r _ _ _ hS134)).trans rfl) ?_
  obtain ⟨v137,hx138,hF139⟩:=qi hk66
  simp only [zi,B0,reduceIte,a9]
  refine qbx rfl hS134 (ql (jo (ql qs (ql qs (ql (a06 i8 (a0k hS134) rfl (fun _=>rfl) (fun _=>rfl)) zh)))) zh)
    (qc0 (fun b hb=>decide_eq_true hb) f0.Truth v137 hx138) ?_
  rintro _ h144 ⟨v140,c141,rfl,hv142,hS145⟩
  refine ⟨_,qdc (qj rfl (qj rfl (qj (a1r hv142) zq))),hS145,(j9 (a2p hv142 (fun _=>rfl)) wl),fun h146 hS147=>?_⟩
  have hS148:Sep h146 lo (c141++([Blk1 pb0 [.int .i64 f0.Truth.Epoch,.int .i64 f0.Truth.Leader,d9,e8,
    f4] 28]++(c62++(i4++(i5++(S0)))))):=by simpa only [a0f,a0z] using hS147
  obtain ⟨x151,hx152,hF153⟩:=qi hF139
  obtain ⟨c154,cs155,os156,hv157,hR158,hS159⟩:=a2w (a26 hv63 hb11 Node.RO.len) hx152 z7 Node.RO.len (a0k hS148)
  obtain ⟨v161,c162,v165,c166,v169,c170,hv163,hv167,hv171,rfl,rfl⟩:=hR158
  have hS160:=a2x hS159
  simp only [yu,qb,zz,qq,s5,s9,t5,zd,zp,B0,reduceIte,a9]
  refine ws (n:=6) (us:=[.int .i64 v137.Epoch,.int .i64 v137.Leader,v140]) (cs:=[.int .i64 x151.View.Epoch,.int .i64 x151.View.Leader,v161,v165,v169,
    .int .i64 x151.Told]) (o:=0) (cs':=[.int .i64 v137.Epoch,.int .i64 v137.Leader,v140,v165,v169,
    .int .i64 x151.Told]) rfl hv157 rfl hx152 hS160 hW rfl (qj rfl (qj rfl (qj (a0g hv142) zq))) (nle rfl) rfl (fun c173 h149 hv174 hS150=>?_)
  simp only [qa,qe,qc,qd,qw,B0,reduceIte,a9]
  obtain ⟨c175,hv176,hS177⟩:=a3u (e':=(Node.mk v137 x151.Log x151.Known x151.Told)) (c:=c173) (os:=c141++(c166++(c170))) hv174 rfl hx152 z7 (Node.RI (x :=
    (Node.mk v137 x151.Log x151.Known x151.Told)) hv142 hv167 hv171) (a1p (c1:=c141) (c2:=c166) (c3:=c170) (a0e (a0i (a0e (a0e hS150)))))
  have hx178:=kf (x':=(Node.mk v137 x151.Log x151.Known x151.Told)) hx152
  have hv179:=a1s hv176
  have he:=qh hF153
  subst he
  simp only [q9,B0,reduceIte,a9]
  exact ⟨d9,i4,c175,f4,i5,by first | trivial | rfl,i8,hv179,l5,(a0e (a0e (a0l (a0e (a0s (a0l hS177))))))⟩
 rw [iteF hc48] at hF9
 simp only [qus,qe,qc,qv,qb,k7,qd,qa,qvu,qy,B0,reduceIte,a9]
 refine qu (t:=(decide (d8.Kind=3))) (fun hc181=>?_) (fun hc181=>?_)
 ·rw [iteT hc181] at hF9
  simp only [qvc,qe,qc,qd,kh,qb,kz,B0,reduceIte,a9]
  refine jj 5 (fun fr' h'=>Sep h' lo (c12++([Blk1 pb0 [.int .i64 f0.Truth.Epoch,.int .i64 f0.Truth.Leader,d9,e8,
    f4] 28]++(c20++(c24++(c28++(i4++(i5++(S0))))))))∧fr' 124 = .bool ((!(decide (x7.View.Leader=d8.K))) ||
    (!(zw d8.N 0 99)))∧fr' 3 = .ref [.int .i64 d8.Kind,.int .i64 d8.K,.int .i64 d8.To,
    .int .i64 d8.N] 0∧fr' 5 = .ptr b10 (d8.K.toNat*6)) (fun Q182 hN183=>?_) ?_
  ·simp only [t8,a0d]
   simp only [qf (g:=119),B0,reduceIte,a9]
   refine zj (t:=(!(decide (x7.View.Leader=d8.K)))) (fun hg184=>?_) (fun hg184=>?_)
   ·simp only [hg184,qf (g:=119),jr,qx,qb,zo,qa,qo,B0,reduceIte,a9]
    exact hN183 _ _ ⟨(a0v (a0v (a03 (a03 (a03 (a0v (a0v hS18))))))),by rw [orT hg184]; simp only [B0,reduceIte,a9],rfl,rfl⟩
   ·simp only [hg184,qf (g:=119),q8,qq,qb,s5,s9,t5,qr,qn,B0,reduceIte,a9]
    refine qg (v := .int .i64 d8.N) rfl ?_
    simp only [hg184,qf (g:=119),q8,zi,B0,reduceIte,a9]
    refine ju rfl (ql qs (ql qs (ql qs zh))) (xn (fun b hb=>decide_eq_true hb) d8.N 0 99 _ rfl) ?_
    simp only [hg184,qf (g:=119),q8,kh,qb,kz,qx,zn,qa,qo,B0,reduceIte,a9]
    exact hN183 _ _ ⟨(a0v (a0v (a03 (a03 (a03 (a0v (a0v hS18))))))),by rw [orF hg184]; simp only [B0,reduceIte,a9],rfl,rfl⟩
  rintro fr185 h189 ⟨hS190,f186,f187,f188⟩
  simp only [t9,a0c]
  simp only [f186,qd,B0,reduceIte,a9]
  refine jj 7 (fun fr' h'=>Sep h' lo (c12++([Blk1 pb0 [.int .i64 f0.Truth.Epoch,.int .i64 f0.Truth.Leader,d9,e8,
    f4] 28]++(c20++(c24++(c28++(i4++(i5++(S0))))))))∧fr' 132 = .bool (((!(decide (x7.View.Leader=d8.K)))||(!(zw d8.N 0 99)))||(decide
    ((t6 x7.Log:Int)=30)))∧fr' 3 = .ref [.int .i64 d8.Kind,.int .i64 d8.K,.int .i64 d8.To,
    .int .i64 d8.N] 0∧fr' 5 = .ptr b10 (d8.K.toNat*6)) (fun Q191 hN192=>?_) ?_
  ·simp only [t8,a0d]
   simp only [qf (g:=125),B0,reduceIte,a9]
   refine zj (t:=((!(decide (x7.View.Leader=d8.K)))||(!(zw d8.N 0 99)))) (fun hg193=>?_) (fun hg193=>?_)
   ·simp only [hg193,qf (g:=125),jr,qx,qb,zo,qa,qo,B0,reduceIte,a9]
    exact hN192 _ _ ⟨(a0v (a0v (a0v (a0v (a0v (a0v (a0v hS190))))))),by rw [orT hg193]; simp only [B0,reduceIte,a9],f187,f188⟩
   ·simp only [hg193,qf (g:=125),q8,f188,qd,yu,qb,zz,qq,s5,s9,t5,zd,qn,B0,
     reduceIte,a9]
    refine qg (v:=v23) ((a2s (o:=3) hv15 rfl hx8 hS190 (nle rfl)).trans rfl) ?_
    simp only [hg193,qf (g:=125),q8,zy,qb,a2i hv25,qv,k7,qx,zn,qa,qo,B0,reduceIte,a9]
    exact hN192 _ _ ⟨(a0v (a0v (a0v (a0v (a0v (a0v (a0v hS190))))))),by rw [orF hg193]; simp only [B0,reduceIte,a9],f187,f188⟩
  rintro fr194 h198 ⟨hS199,f195,f196,f197⟩
  simp only [t9,a0c]
  simp only [qa,f195,qy,B0,reduceIte,a9]
  refine qu (t:=(((!(decide (x7.View.Leader=d8.K)))||(!(zw d8.N 0 99)))||(decide ((t6 x7.Log:Int)=30)))) (fun hc200=>?_) (fun hc200=>?_)
  ·rw [iteT hc200] at hF9
   simp only [qe,qc,qd,qa,qw,B0,reduceIte,a9]
   obtain ⟨c201,hv202,hS203⟩:=a1x (c:=c12) (os:=c20++(c24++(c28))) hv15 rfl hx8 z7 (Node.RI (x:=x7) hv21 hv25 hv29) (a1p (c1:=c20) (c2:=c24)
     (c3:=c28) (a0e (a0i (a0i (a0i hS199)))))
   have hv204:=a1s hv202
   have he:=qh hF9
   subst he
   simp only [q9,B0,reduceIte,a9]
   exact ⟨d9,i4,c201,f4,i5,by first | trivial | rfl,i8,hv204,l5,(a0e (a0e (a0l (a0e hS203))))⟩
  rw [iteF hc200] at hF9
  simp only [zf,qxa,qe,js,f197,qh8,qk,zv,kp,zz,z9,s5,s9,t5,zd,zu,B0,
    reduceIte,a9]
  refine qt (v:=v23) ((a2s (o:=3) hv15 rfl hx8 hS199 (nle rfl)).trans rfl) ?_
  simp only [f197,zv,qk,kp,zz,z9,s5,s9,t5,zd,zu,B0,reduceIte,a9]
  refine qt (v := .int .i64 x7.View.Epoch) ((a2s (o:=0) hv15 rfl hx8 hS199 (nle rfl)).trans rfl) ?_
  simp only [f196,z9,qk,s5,s9,t5,qr,zu,B0,reduceIte,a9]
  refine qt (v := .int .i64 d8.N) rfl ?_
  simp only [qen,evp,B0,reduceIte,a9]
  refine qt (v := .agg [.int .i64 x7.View.Epoch,.int .i64 d8.N]) rfl ?_
  simp only [qdb,evp,B0,reduceIte,a9]
  refine qdx (n:=2) (f:=qm) [(Row.mk x7.View.Epoch d8.N)] hS199 rfl rfl (fun v206 c207 h208 hv209 hS210 hq205=>?_)
  simp only [qf8,B0,reduceIte,a9]
  obtain ⟨l212,hx213,hF214⟩:=qi hF9
  refine qbl (f:=qm) hv25 (a0i hS210) hW (fun _=>rfl) (fun _=>rfl) (SlF.first hv209 hS210 (fun _=>rfl)) hx213 (fun v215 c216 h217 hv218 hS219=>?_)
  simp only [kp,qk,zz,z9,s5,s9,t5,zd,qds,B0,reduceIte,a9]
  refine qjg (n:=6) (us:=[v215]) (cs:=[.int .i64 x7.View.Epoch,.int .i64 x7.View.Leader,v19,v23,v27,
    .int .i64 x7.Told]) (o:=3) (cs':=[.int .i64 x7.View.Epoch,.int .i64 x7.View.Leader,v19,v215,v27,
    .int .i64 x7.Told]) (j8 (a0g hv218)) hv15 rfl hx8 (a0k hS219) hW rfl (qj (a0g hv218) zq) (nle rfl) rfl (fun c223 h221 hv224 hS222=>?_)
  simp only [zc,qur,qe,js,f197,zv,qk,kp,zz,z9,s5,s9,t5,zd,zu,B0,reduceIte,
    a9]
  refine qt (v:=v27) ((a2s (o:=4) hv224 rfl hx8 hS222 (nle rfl)).trans rfl) ?_
  simp only [f196,z9,qk,s5,s9,t5,qr,zu,B0,reduceIte,a9]
  refine qt (v := .int .i64 d8.K) rfl ?_
  simp only [f197,zv,qk,kp,zz,z9,s5,s9,t5,zd,zu,B0,reduceIte,a9]
  refine qt (v:=v215) ((a2s (o:=3) hv224 rfl hx8 hS222 (nle rfl)).trans rfl) ?_
  obtain ⟨x225,hx226,hF227⟩:=qi hF214
  simp only [qd8,qk,a2i hv218,yv,B0,reduceIte,a9]
  obtain ⟨b228,hb229⟩:=a13 hv29 (ka hx226)
  refine qt (a2u hv29 hb229 hx226) ?_
  simp only [qds,B0,reduceIte,a9]
  refine qkj (f:=cI) (x':=(t6 l212:Int)) (o:=0) hv29 (a03 hS222) hW hb229 hx226 (fun _=>rfl) rfl rfl (nle rfl) rfl (fun c232 h230 hv233 hS231=>?_)
  have hx234:=kf (x':=(t6 l212:Int)) hx226
  simp only [zc,qe,qc,qd,qa,qw,B0,reduceIte,a9]
  obtain ⟨c235,hv236,hS237⟩:=a3u (e':=(Node.mk x7.View l212 (a1u x7.Known d8.K.toNat (t6 l212:Int)) x7.Told)) (c:=c223) (os:=c20++(c216 ++
    (c232))) hv224 rfl hx8 z7 (Node.RI (x:=(Node.mk x7.View l212 (a1u x7.Known d8.K.toNat (t6 l212:Int)) x7.Told)) hv21 hv218 hv233) (a1p
    (c1:=c20) (c2:=c216) (c3:=c232) (a0e (a03 (a0k hS231))))
  have hx238:=kf (x':=(Node.mk x7.View l212 (a1u x7.Known d8.K.toNat (t6 l212:Int)) x7.Told)) hx8
  have hv239:=a1s hv236
  have he:=qh hF227
  subst he
  simp only [q9,B0,reduceIte,a9]
  exact ⟨d9,i4,c235,f4,i5,by first | trivial | rfl,i8,hv239,l5,(a0e (a0e (a0l (a0e (a0s (a0l hS237))))))⟩
 rw [iteF hc181] at hF9
 simp only [qu6,qe,qc,qv,qb,k7,qd,qa,qxg,qy,B0,reduceIte,a9]
 refine qu (t:=(decide (d8.Kind=4))) (fun hc240=>?_) (fun hc240=>?_)
 ·rw [iteT hc240] at hF9
  simp only [quv,qe,qc,zf0,qd,qn,B0,reduceIte,a9]
  refine qg (v := .agg [.int .i64 d8.Kind,.int .i64 d8.K,.int .i64 d8.To,.int .i64 d8.N]) rfl ?_
  obtain ⟨c241,hv242,hS243⟩:=a1x (c:=c12) (os:=c20++(c24++(c28))) hv15 rfl hx8 z7 (Node.RI (x:=x7) hv21 hv25 hv29) (a1p (c1:=c20) (c2:=c24)
    (c3:=c28) (a0e (a0e (a0e (a0e hS18)))))
  have hv244:=a1s hv242
  obtain ⟨v245,hx246,hF247⟩:=qi hF9
  simp only [zi,B0,reduceIte,a9]
  refine wc rfl (qjh hW k pb0 f0 d9 i4 i8 e8 c241 hv244 f4 i5 l5 d8 v245 hx246 (a0e (a0e (a0l (a0e hS243))))) ?_
  rintro _ h254 ⟨c248,c250,c252,rfl,hv249,hv251,hv253,hS255⟩
  simp only [qd,qa,qw,B0,reduceIte,a9]
  have he:=qh hF247
  subst he
  simp only [q9,B0,reduceIte,a9]
  exact ⟨d9,c248,c250,f4,c252,by first | trivial | rfl,hv249,hv251,hv253,(a0e (a0e (a0e (a0e hS255))))⟩
 rw [iteF hc240] at hF9
 simp only [qw8,qe,qc,qv,qb,k7,qd,qa,qxm,qy,B0,reduceIte,a9]
 obtain ⟨c256,hv257,hS258⟩:=a1x (c:=c12) (os:=c20++(c24++(c28))) hv15 rfl hx8 z7 (Node.RI (x:=x7) hv21 hv25 hv29) (a1p (c1:=c20) (c2:=c24)
   (c3:=c28) (a0e (a0e (a0e (a0e hS18)))))
 have hv259:=a1s hv257
 obtain ⟨s260,hX262,hk263⟩:=qi hF9
 refine qf4 (t:=(decide (d8.Kind=5))) (fun fr' h'=>fr' 0 = .ptr pb0 0∧fr' 3 = .ref [.int .i64 d8.Kind,.int .i64 d8.K,.int .i64 d8.To,
   .int .i64 d8.N] 0∧fr' 5 = .ptr b10 (d8.K.toNat*6)∧fr' 6 = .bool (decide (x7.View.Leader=d8.K))∧fr' 26 = .int .i64 d8.Kind∧fr' 167 = .bool s260∧Sep h' lo
   ([Blk1 pb0 [.int .i64 f0.Truth.Epoch,.int .i64 f0.Truth.Leader,d9,e8,
   f4] 28]++(c256++(i4++(i5++(S0)))))) (fun Q264 hN265 hR266 hE267=>⟨fun hc268=>?_,fun hc268=>?_⟩) ?_
 ·rw [iteT hc268] at hX262
  simp only [zf,qo,B0,reduceIte,a9]
  have e269:=qh hX262
  subst e269
  exact hN265 _ _ ⟨zf0,rfl,rfl,rfl,rfl,rfl,(a0e (a0k (a0e (a0e hS258))))⟩
 ·rw [iteF hc268] at hX262
  simp only [qc,qv,qb,k7,qd,qa,qo,B0,reduceIte,a9]
  have e270:=qh hX262
  subst e270
  exact hN265 _ _ ⟨zf0,rfl,rfl,rfl,rfl,rfl,(a0e (a0k (a0e (a0e hS258))))⟩
 rintro fr271 h272 ⟨f274,f275,f276,f277,f278,f279,hS273⟩
 unfold qbr at hk263
 simp only [qv8,f279,qy,B0,reduceIte,a9]
 refine qu (t:=s260) (fun hc280=>?_) (fun hc280=>?_)
 ·rw [iteT hc280] at hk263
  simp only [qtf,qe,js,f277,zv,qk,qeu,kz,B0,reduceIte,a9]
  refine wu 12 (fun fr' h'=>Sep h' lo ([Blk1 pb0 [.int .i64 f0.Truth.Epoch,.int .i64 f0.Truth.Leader,d9,e8,
    f4] 28]++(i4++(c256++(i5++(S0)))))∧fr' 184 = .bool ((!(decide (x7.View.Leader=d8.K)))||(decide
    (x7.View.Epoch≠f0.Truth.Epoch)))∧fr' 0 = .ptr pb0 0∧fr' 3 = .ref [.int .i64 d8.Kind,.int .i64 d8.K,.int .i64 d8.To,
    .int .i64 d8.N] 0) rfl (fun Q281 hN282=>?_) ?_
  ·simp only [t8,a0d]
   simp only [qp (g:=172),B0,reduceIte,a9]
   refine jq (t:=(!(decide (x7.View.Leader=d8.K)))) (fun hg283=>?_) (fun hg283=>?_)
   ·simp only [hg283,qp (g:=172),qaj,jf,qk,zo,zc,qo,B0,reduceIte,a9]
    exact hN282 _ _ ⟨(a0e (a0e (a0k (a0e hS273)))),by rw [orT hg283]; simp only [B0,reduceIte,a9],f274,f275⟩
   ·obtain ⟨c284,cs285,os286,hv287,hR288,hS289⟩:=a2w (a26 hv259 hb11 Node.RO.len) hx8 z7 Node.RO.len (a0l hS273)
    obtain ⟨v291,c292,v295,c296,v299,c300,hv293,hv297,hv301,rfl,rfl⟩:=hR288
    have hS290:=a2x hS289
    simp only [hg283,qp (g:=172),jg,f276,zv,qk,kp,zz,z9,s5,s9,t5,zd,zu,B0,
      reduceIte,a9]
    refine qt (v := .int .i64 x7.View.Epoch) ((a2s (o:=0) hv287 rfl hx8 hS290 (nle rfl)).trans rfl) ?_
    simp only [hg283,qp (g:=172),jg,f274,zv,qk,kp,zz,z9,s5,s9,t5,zd,zu,B0,
      reduceIte,a9]
    refine qt (v := .int .i64 f0.Truth.Epoch) ((jt (a0r _ _ _ (a0i hS290))).trans rfl) ?_
    simp only [hg283,qp (g:=172),jg,yg,qk,ya,jf,zn,zc,qo,B0,reduceIte,a9]
    exact hN282 _ _ ⟨(a0e (a0e (a0k (a0e hS273)))),by rw [orF hg283]; simp only [B0,reduceIte,a9],f274,f275⟩
  rintro fr303 h307 ⟨hS308,f304,f305,f306⟩
  simp only [t9,a0c]
  simp only [zc,f304,qy,B0,reduceIte,a9]
  refine qu (t:=((!(decide (x7.View.Leader=d8.K)))||(decide (x7.View.Epoch≠f0.Truth.Epoch)))) (fun hc309=>?_) (fun hc309=>?_)
  ·rw [iteT hc309] at hk263
   simp only [qe,qc,qd,qa,qw,B0,reduceIte,a9]
   have he:=qh hk263
   subst he
   simp only [q9,B0,reduceIte,a9]
   exact ⟨d9,i4,c256,f4,i5,by first | trivial | rfl,i8,hv259,l5,(a0e (a0e (a0e (a0e hS308))))⟩
  rw [iteF hc309] at hk263
  simp only [zf,qu4,qe,qc,f305,qd,f306,qn,B0,reduceIte,a9]
  refine qg (v := .agg [.int .i64 d8.Kind,.int .i64 d8.K,.int .i64 d8.To,.int .i64 d8.N]) rfl ?_
  obtain ⟨v310,hx311,hF312⟩:=qi hk263
  simp only [zi,B0,reduceIte,a9]
  refine wc rfl (qjb hW k pb0 f0 d9 i4 i8 e8 c256 hv259 f4 i5 l5 d8 v310 hx311 (a0e (a0e (a0e (a0e hS308))))) ?_
  rintro _ h321 ⟨v313,c314,c317,c319,rfl,hv315,hv318,hv320,hS322⟩
  simp only [qd,qa,qw,B0,reduceIte,a9]
  have he:=qh hF312
  subst he
  simp only [q9,B0,reduceIte,a9]
  exact ⟨v313,c314,c317,f4,c319,by first | trivial | rfl,hv315,hv318,hv320,(a0e (a0e (a0e (a0e hS322))))⟩
 rw [iteF hc280] at hk263
 simp only [qs2,qe,qc,f278,qv,qb,k7,qd,qa,qs5,qy,B0,reduceIte,a9]
 refine qu (t:=(decide (d8.Kind=7))) (fun hc323=>?_) (fun hc323=>?_)
 ·rw [iteT hc323] at hk263
  simp only [qwe,qe,qc,f277,qd,kh,qb,kz,qa,qy,B0,reduceIte,a9]
  refine qu (t:=(!(decide (x7.View.Leader=d8.K)))) (fun hc324=>?_) (fun hc324=>?_)
  ·rw [iteT hc324] at hk263
   simp only [qe,qc,qd,qa,qw,B0,reduceIte,a9]
   have he:=qh hk263
   subst he
   simp only [q9,B0,reduceIte,a9]
   exact ⟨d9,i4,c256,f4,i5,by first | trivial | rfl,i8,hv259,l5,(a0e (a0e (a0k (a0e hS273))))⟩
  rw [iteF hc324] at hk263
  obtain ⟨c325,cs326,os327,hv328,hR329,hS330⟩:=a2w (a26 hv259 hb11 Node.RO.len) hx8 z7 Node.RO.len (a0l hS273)
  obtain ⟨v332,c333,v336,c337,v340,c341,hv334,hv338,hv342,rfl,rfl⟩:=hR329
  have hS331:=a2x hS330
  simp only [zf,qw7,qe,qc,qd,qa,qul,f276,yu,qb,zz,qq,s5,s9,t5,zd,
    qn,B0,reduceIte,a9]
  refine qg (v:=v332) ((a2s (o:=2) hv328 rfl hx8 hS331 (nle rfl)).trans rfl) ?_
  simp only [zy,qb,a2i hv334,qd,qa,B0,reduceIte,a9]
  obtain ⟨oc348,hX350,hk351⟩:=jy hk263
  simp only [qxh]
  refine qfn (σ:=Int) (fun i346 s381=>uk x7 i346 s381) (fun s fr' h'=>fr' 0 = .ptr pb0 0∧fr' 5 = .ptr b10
    (d8.K.toNat*6)∧fr' 7 = .int .i64 s∧fr' 196=v332∧Sep h' lo ([Blk1 pb0 [.int .i64 f0.Truth.Epoch,.int .i64 f0.Truth.Leader,d9,e8,
    f4] 28]++(c325++(c333++(i4++(i5++(c337++(c341++(S0))))))))) hX350 ⟨f274,f276,rfl,rfl,
    (a0v (a03 (a03 (a0v (a0v (a0e (a0e hS331)))))))⟩ (by simp only [B0,reduceIte,a9]) (by simp only [B0,reduceIte,
    a9]) (fun _ _ _ h=>h) rfl rfl (fun _ _ _ _ h=>h) (fun _ _ _ _ h=>h) (fun _ _ _ _ h=>h) (by decide) ?_ ?_
  ·rintro i346 s345 fr360 h361 hx367 ⟨f363,f364,f365,f366,hS362⟩ f368 f369 oc349 hF352 hr353 Q354 hN355 hB359 hK356 hR357 hE358
   unfold uk at hF352
   obtain ⟨x370,hx371,hF372⟩:=qi hF352
   simp only [qw6,qe,qc,f366,f368,ji,B0,reduceIte,a9]
   obtain ⟨b373,hb374⟩:=a13 hv334 (ka hx371)
   refine qg (a2u hv334 hb374 hx371) ?_
   simp only [qn,B0,reduceIte,a9]
   refine qg (v := .int .i64 x370) ((SlF.ld (o:=0) hv334 (a0k hS362) hb374 hx371 (fun _=>rfl) (nle rfl)).trans rfl) ?_
   simp only [qd,qa,qux,qc,f365,f364,yu,qb,zz,qq,s5,s9,t5,zd,qn,B0,reduceIte,
     a9]
   refine qg (v:=v340) ((a2s (o:=4) hv328 rfl hx8 (a0l hS362) (nle rfl)).trans rfl) ?_
   obtain ⟨x375,hx376,hF377⟩:=qi hF372
   simp only [qd,ji,B0,reduceIte,a9]
   obtain ⟨b378,hb379⟩:=a13 hv342 (ka hx376)
   refine qg (a2u hv342 hb379 hx376) ?_
   simp only [qn,B0,reduceIte,a9]
   refine qg (v := .int .i64 x375) ((SlF.ld (o:=0) hv342 (a0v hS362) hb379 hx376 (fun _=>rfl) (nle rfl)).trans rfl) ?_
   simp only [q86,qb,qsi,qd,qa,qo,B0,reduceIte,a9]
   have e380:=qh hF377
   exact hN355 _ _ _ e380.symm ⟨f363,f364,rfl,f366,(a0v (a0v (a0v (a0v (a0v (a0v (a0v hS362)))))))⟩ (f368) (f369)
  rintro s382 fr383 h384 rfl ⟨f386,f387,f388,f389,hS385⟩
  dsimp only [jnO] at hk351
  unfold qde at hk351
  simp only [qvx,qe,qc,f388,qd,f387,yu,qb,zz,qq,s5,s9,t5,zd,qn,B0,reduceIte,
    a9]
  refine qg (v := .int .i64 x7.Told) ((a2s (o:=5) hv328 rfl hx8 (a0l hS385) (nle rfl)).trans rfl) ?_
  simp only [qv,qb,qov,qa,qy,B0,reduceIte,a9]
  refine qu (t:=(decide (s382≤x7.Told))) (fun hc390=>?_) (fun hc390=>?_)
  ·rw [iteT hc390] at hk351
   simp only [qe,qc,qd,qa,qw,B0,reduceIte,a9]
   obtain ⟨c391,hv392,hS393⟩:=a1x (c:=c325) (os:=c333++(c337++(c341))) hv328 rfl hx8 z7 (Node.RI (x:=x7) hv334 hv338 hv342) (a1p (c1:=c333)
     (c2:=c337) (c3:=c341) (a0i (a0i (a0v (a0v hS385)))))
   have hv394:=a1s hv392
   have he:=qh hk351
   subst he
   simp only [q9,B0,reduceIte,a9]
   exact ⟨d9,i4,c391,f4,i5,by first | trivial | rfl,i8,hv394,l5,(a0e (a0e (a0l (a0e hS393))))⟩
  rw [iteF hc390] at hk351
  simp only [zf,quq,qe,qc,f387,qd,f388,yu,qb,zz,qq,s5,s9,t5,zd,zp,B0,
    reduceIte,a9]
  refine ws (n:=6) (us:=[.int .i64 s382]) (cs:=[.int .i64 x7.View.Epoch,.int .i64 x7.View.Leader,v332,v336,v340,
    .int .i64 x7.Told]) (o:=5) (cs':=[.int .i64 x7.View.Epoch,.int .i64 x7.View.Leader,v332,v336,v340,
    .int .i64 s382]) rfl hv328 rfl hx8 (a0l hS385) hW rfl rfl (nle rfl) rfl (fun c397 h395 hv398 hS396=>?_)
  simp only [qa,qtk,qe,qc,f388,qd,f386,yu,qb,zz,qq,s5,s9,t5,zd,qn,B0,
    reduceIte,a9]
  refine qg (v:=f4) ((jt (a0r _ _ _ (a0l hS396))).trans rfl) ?_
  simp only [zy,qb,a2i l5,qv,qj3,qa,qti,qy,B0,reduceIte,a9]
  refine qu (t:=(decide ((t6 f0.Acked:Int)<s382))) (fun hc399=>?_) (fun hc399=>?_)
  ·rw [iteT hc399] at hk351
   simp only [qvy,qc,f386,qd,yh,evp,B0,reduceIte,a9]
   refine kx (n:=2) (f:=qm) ([] : List Row) hS396 rfl rfl (fun v400 c401 h402 hv403 hS404=>?_)
   simp only [f387,qd,yu,qb,zz,qq,s5,s9,t5,zd,qn,B0,reduceIte,a9]
   refine qg (v:=v336) ((a2s (o:=3) hv398 rfl hx8 (a0l hS404) (nle rfl)).trans rfl) ?_
   obtain ⟨l406,hx407,hF408⟩:=qi hk351
   simp only [f388,qd,qes,Option.map_some,Option.map_none,B0,reduceIte,a9]
   obtain ⟨w409,i410,he411,hw412⟩:=SlF.win (f:=qm) (ty:=92) none (some s382) hv338 hx407 (a0v hS404)
   refine qg he411 ?_
   simp only [wt,B0,reduceIte,a9]
   obtain ⟨l413,hx414,hF415⟩:=qi hF408
   refine yn (f:=qm) hv403 hS404 hW (fun _=>rfl) (fun _=>rfl) (SlW.first hw412 hv338 (a0v hS404) (fun _=>rfl)) hx414
     (fun v416 c417 h418 hv419 hS420=>?_)
   simp only [yu,qb,zz,qq,s5,s9,t5,zd,zp,B0,reduceIte,a9]
   refine zm (us:=[v416]) (j8 (a0g hv419)) (cs':=[.int .i64 f0.Truth.Epoch,.int .i64 f0.Truth.Leader,d9,e8,
     v416]) (a0k hS420) hW rfl (qj (a0g hv419) zq) (nle rfl) rfl (fun h422 hS423=>?_)
   simp only [qa,qe,qc,qd,qw,B0,reduceIte,a9]
   obtain ⟨c424,hv425,hS426⟩:=a3u (e':=(Node.mk x7.View x7.Log x7.Known s382)) (c:=c397) (os:=c333++(c337++(c341))) hv398 rfl hx8 z7 (Node.RI (x :=
     (Node.mk x7.View x7.Log x7.Known s382)) hv334 hv338 hv342) (a1p (c1:=c333) (c2:=c337) (c3:=c341) (a03 (a03 (Sep.m7 (Sep.m7 hS423)))))
   have hx427:=kf (x':=(Node.mk x7.View x7.Log x7.Known s382)) hx8
   have hv428:=a1s hv425
   have he:=qh hF415
   subst he
   simp only [q9,B0,reduceIte,a9]
   exact ⟨d9,i4,c424,v416,c417,by first | trivial | rfl,i8,hv428,hv419,(a0e (a0e (a0l (a0k (a0s (a0i hS426))))))⟩
  rw [iteF hc399] at hk351
  simp only [zf,qe,qc,qd,qa,qw,B0,reduceIte,a9]
  obtain ⟨c429,hv430,hS431⟩:=a3u (e':=(Node.mk x7.View x7.Log x7.Known s382)) (c:=c397) (os:=c333++(c337++(c341))) hv398 rfl hx8 z7 (Node.RI (x :=
    (Node.mk x7.View x7.Log x7.Known s382)) hv334 hv338 hv342) (a1p (c1:=c333) (c2:=c337) (c3:=c341) (a0e (a0i (a0v (a0v hS396)))))
  have hx432:=kf (x':=(Node.mk x7.View x7.Log x7.Known s382)) hx8
  have hv433:=a1s hv430
  have he:=qh hk351
  subst he
  simp only [q9,B0,reduceIte,a9]
  exact ⟨d9,i4,c429,f4,i5,by first | trivial | rfl,i8,hv433,l5,(a0e (a0e (a0l (a0e hS431))))⟩
 rw [iteF hc323] at hk263
 simp only [zf,yd,qe,qc,qd,qa,qw,B0,reduceIte,a9]
 have he:=qh hk263
 subst he
 simp only [q9,B0,reduceIte,a9]
 exact ⟨d9,i4,c256,f4,i5,by first | trivial | rfl,i8,hv259,l5,(a0e (a0e (a0k (a0e hS273))))⟩
end Go.Proofs.Ytohofoampalhoaa.X
namespace Go.Proofs.Ytohofoampalhoaa.X
open Go
theorem qjy {W:Nat→Bool}{h:Heap} (hW:∀ b,
  (geL h.length) b→W b=true) (k:Nat) (f0:Cluster) (d8:ClusterStep) (r:Cluster × Bool)
  (hF:wq k f0 d8=some r) : Ret E W 65 [.agg [.int .i64 f0.Truth.Epoch,.int .i64 f0.Truth.Leader,lst cI f0.Truth.InStep,lst qz f0.Nodes,
  lst qm f0.Acked],.agg [.int .i64 d8.Kind,.int .i64 d8.K,.int .i64 d8.To,.int .i64 d8.N]] h (fun v h'=>∃ n9 l9 p9 m0 o8 n7,
  v = .tup [.agg [.int .i64 r.1.Truth.Epoch,.int .i64 r.1.Truth.Leader,n9,p9,o8],
  .bool r.2]∧SlF cI 1 3 n9 r.1.Truth.InStep l9∧SlN Node.R 6 68 p9 r.1.Nodes m0∧SlF qm 2 92 o8 r.1.Acked n7∧Sep h' (geL h.length) (l9 ++
  (m0++(n7++([]))))):=by
 refine Ret.of (fn:=x65) rfl (Run.of ?_)
 unfold wq at hF
 have zf0:zb [.agg [.int .i64 f0.Truth.Epoch,.int .i64 f0.Truth.Leader,lst cI f0.Truth.InStep,lst qz f0.Nodes,lst qm f0.Acked],
   .agg [.int .i64 d8.Kind,.int .i64 d8.K,.int .i64 d8.To,.int .i64 d8.N]] 0 = .agg [.int .i64 f0.Truth.Epoch,.int .i64 f0.Truth.Leader,lst cI f0.Truth.InStep,
   lst qz f0.Nodes,lst qm f0.Acked]:=rfl
 have zf1:zb [.agg [.int .i64 f0.Truth.Epoch,.int .i64 f0.Truth.Leader,lst cI f0.Truth.InStep,lst qz f0.Nodes,lst qm f0.Acked],
   .agg [.int .i64 d8.Kind,.int .i64 d8.K,.int .i64 d8.To,.int .i64 d8.N]] 1 = .agg [.int .i64 d8.Kind,.int .i64 d8.K,.int .i64 d8.To,.int .i64 d8.N]:=rfl
 generalize zb [.agg [.int .i64 f0.Truth.Epoch,.int .i64 f0.Truth.Leader,lst cI f0.Truth.InStep,lst qz f0.Nodes,lst qm f0.Acked],
   .agg [.int .i64 d8.Kind,.int .i64 d8.K,.int .i64 d8.To,.int .i64 d8.N]]=fr0 at zf0 zf1 ⊢
 have hS:Sep h (geL h.length) []:=a1q h
 simp only [x65,qe,qc,j7,zf0,B0,reduceIte,a9]
 refine jm (cs:=[.int .i64 f0.Truth.Epoch,.int .i64 f0.Truth.Leader,lst cI f0.Truth.InStep,lst qz f0.Nodes,
   lst qm f0.Acked]) hS rfl rfl rfl (fun b1 h2 hS3=>?_)
 simp only [j7,zf1,B0,reduceIte,a9]
 refine jm (cs:=[.int .i64 d8.Kind,.int .i64 d8.K,.int .i64 d8.To,.int .i64 d8.N]) hS3 rfl rfl rfl (fun b5 h6 hS7=>?_)
 simp only [kc,B0,reduceIte,a9]
 refine jp hS7 (fun b9 h10 hS11=>?_)
 simp only [qd,qa,B0,reduceIte,a9]
 refine jc (a0k hS11) hW (by simp only [B0,reduceIte,a9]) (fun h13 hS14=>?_)
 refine jc (a0l hS14) hW (by simp only [B0,reduceIte,a9]) (fun h15 hS16=>?_)
 simp only [jd,q01,qe,qc,qq,qb,s5,s9,t5,qr,qn,B0,reduceIte,a9]
 refine qg (v:=lst qz f0.Nodes) rfl ?_
 simp only [zy,qb,je,qd,qa,q21,qe,qc,qq,s5,s9,t5,qr,qn,B0,reduceIte,
   a9]
 refine qg (v := .int .i64 d8.Kind) rfl ?_
 simp only [qv,qb,k7,qd,B0,reduceIte,a9]
 refine jj 4 (fun fr' h'=>Sep h' (geL h.length) ([Blk1 b9 [.int .i64 0,.int .i64 0,.nil,.nil,
   .nil] 28]++([]))∧fr' 19 = .bool ((decide (d8.Kind=4))||(decide (d8.Kind=5)))∧fr' 2 = .ref [.int .i64 f0.Truth.Epoch,.int .i64 f0.Truth.Leader,
   lst cI f0.Truth.InStep,lst qz f0.Nodes,lst qm f0.Acked] 0∧fr' 3 = .ref [.int .i64 d8.Kind,.int .i64 d8.K,.int .i64 d8.To,
   .int .i64 d8.N] 0∧fr' 4 = .ptr b9 0∧fr' 6 = .int .i64 (t6 f0.Nodes:Int)) (fun Q17 hN18=>?_) ?_
 ·simp only [t8,a0d]
  simp only [qf (g:=15),B0,reduceIte,a9]
  refine zj (t:=(decide (d8.Kind=4))) (fun hg19=>?_) (fun hg19=>?_)
  ·simp only [hg19,qf (g:=15),jr,qx,qb,zo,qa,qo,B0,reduceIte,a9]
   exact hN18 _ _ ⟨hS16,by rw [orT hg19]; simp only [B0,reduceIte,a9],rfl,rfl,rfl,rfl⟩
  ·simp only [hg19,qf (g:=15),q8,qq,qb,s5,s9,t5,qr,qn,B0,reduceIte,a9]
   refine qg (v := .int .i64 d8.Kind) rfl ?_
   simp only [hg19,qf (g:=15),q8,qv,qb,k7,qx,zn,qa,qo,B0,reduceIte,a9]
   exact hN18 _ _ ⟨hS16,by rw [orF hg19]; simp only [B0,reduceIte,a9],rfl,rfl,rfl,rfl⟩
 rintro fr20 h26 ⟨hS27,f21,f22,f23,f24,f25⟩
 simp only [t9,a0c]
 simp only [f21,qd,B0,reduceIte,a9]
 refine jj 4 (fun fr' h'=>Sep h' (geL h.length) ([Blk1 b9 [.int .i64 0,.int .i64 0,.nil,.nil,
   .nil] 28]++([]))∧fr' 24 = .bool (((decide (d8.Kind=4))||(decide (d8.Kind=5)))||(decide (d8.Kind=6)))∧fr' 2 = .ref [.int .i64 f0.Truth.Epoch,
   .int .i64 f0.Truth.Leader,lst cI f0.Truth.InStep,lst qz f0.Nodes,lst qm f0.Acked] 0∧fr' 3 = .ref [.int .i64 d8.Kind,.int .i64 d8.K,
   .int .i64 d8.To,.int .i64 d8.N] 0∧fr' 4 = .ptr b9 0∧fr' 6 = .int .i64 (t6 f0.Nodes:Int)) (fun Q28 hN29=>?_) ?_
 ·simp only [t8,a0d]
  simp only [qf (g:=20),B0,reduceIte,a9]
  refine zj (t:=((decide (d8.Kind=4))||(decide (d8.Kind=5)))) (fun hg30=>?_) (fun hg30=>?_)
  ·simp only [hg30,qf (g:=20),jr,qx,qb,zo,qa,qo,B0,reduceIte,a9]
   exact hN29 _ _ ⟨hS27,by rw [orT hg30]; simp only [B0,reduceIte,a9],f22,f23,f24,f25⟩
  ·simp only [hg30,qf (g:=20),q8,f23,qq,qb,s5,s9,t5,qr,qn,B0,reduceIte,a9]
   refine qg (v := .int .i64 d8.Kind) rfl ?_
   simp only [hg30,qf (g:=20),q8,qv,qb,k7,qx,zn,qa,qo,B0,reduceIte,a9]
   exact hN29 _ _ ⟨hS27,by rw [orF hg30]; simp only [B0,reduceIte,a9],f22,f23,f24,f25⟩
 rintro fr31 h37 ⟨hS38,f32,f33,f34,f35,f36⟩
 simp only [t9,a0c]
 simp only [f32,qd,qa,q4a,qe,qc,f34,qq,qb,s5,s9,t5,qr,qn,B0,reduceIte,a9]
 refine qg (v := .int .i64 d8.K) rfl ?_
 simp only [f36,qd,qv,qb,qlp,zi,B0,reduceIte,a9]
 refine ju rfl (ql qs (ql qs (ql qs zh))) (xn (fun b hb=>decide_eq_true hb) d8.K 0 (a0a .i64
   ((t6 f0.Nodes:Int) - 1)) _ rfl) ?_
 simp only [kh,qb,kz,qd,B0,reduceIte,a9]
 refine jj 7 (fun fr' h'=>Sep h' (geL h.length) ([Blk1 b9 [.int .i64 0,.int .i64 0,.nil,.nil,
   .nil] 28]++([]))∧fr' 38 = .bool ((!(zw d8.K 0 (a0a .i64 ((t6 f0.Nodes:Int) - 1))))||(!(zw d8.To 0 (a0a .i64
   ((t6 f0.Nodes:Int) - 1)))))∧fr' 2 = .ref [.int .i64 f0.Truth.Epoch,.int .i64 f0.Truth.Leader,lst cI f0.Truth.InStep,lst qz f0.Nodes,
   lst qm f0.Acked] 0∧fr' 3 = .ref [.int .i64 d8.Kind,.int .i64 d8.K,.int .i64 d8.To,
   .int .i64 d8.N] 0∧fr' 4 = .ptr b9 0∧fr' 7 = .bool (((decide (d8.Kind=4))||(decide (d8.Kind=5)))||(decide (d8.Kind=6)))) (fun Q39 hN40=>?_) ?_
 ·simp only [t8,a0d]
  simp only [qf (g:=31),B0,reduceIte,a9]
  refine zj (t:=(!(zw d8.K 0 (a0a .i64 ((t6 f0.Nodes:Int) - 1))))) (fun hg41=>?_) (fun hg41=>?_)
  ·simp only [hg41,qf (g:=31),jr,qx,qb,zo,qa,qo,B0,reduceIte,a9]
   exact hN40 _ _ ⟨hS38,by rw [orT hg41]; simp only [B0,reduceIte,a9],f33,f34,f35,rfl⟩
  ·simp only [hg41,qf (g:=31),q8,f34,qq,qb,s5,s9,t5,qr,qn,B0,reduceIte,a9]
   refine qg (v := .int .i64 d8.To) rfl ?_
   simp only [hg41,qf (g:=31),q8,f36,qd,qv,qb,qlp,zi,B0,reduceIte,a9]
   refine ju rfl (ql qs (ql qs (ql qs zh))) (xn (fun b hb=>decide_eq_true hb) d8.To 0 (a0a .i64
     ((t6 f0.Nodes:Int) - 1)) _ rfl) ?_
   simp only [hg41,qf (g:=31),q8,kh,qb,kz,qx,zn,qa,qo,B0,reduceIte,a9]
   exact hN40 _ _ ⟨hS38,by rw [orF hg41]; simp only [B0,reduceIte,a9],f33,f34,f35,rfl⟩
 rintro fr42 h48 ⟨hS49,f43,f44,f45,f46,f47⟩
 simp only [t9,a0c]
 simp only [f43,qd,B0,reduceIte,a9]
 refine jj 8 (fun fr' h'=>Sep h' (geL h.length) ([Blk1 b9 [.int .i64 0,.int .i64 0,.nil,.nil,
   .nil] 28]++([]))∧fr' 47 = .bool (((!(zw d8.K 0 (a0a .i64 ((t6 f0.Nodes:Int) - 1))))||(!(zw d8.To 0 (a0a .i64
   ((t6 f0.Nodes:Int) - 1)))))||((!(((decide (d8.Kind=4))||(decide (d8.Kind=5)))||(decide (d8.Kind=6))))&&(decide
   (d8.To≠0))))∧fr' 2 = .ref [.int .i64 f0.Truth.Epoch,.int .i64 f0.Truth.Leader,lst cI f0.Truth.InStep,lst qz f0.Nodes,
   lst qm f0.Acked] 0∧fr' 3 = .ref [.int .i64 d8.Kind,.int .i64 d8.K,.int .i64 d8.To,.int .i64 d8.N] 0∧fr' 4 = .ptr b9 0) (fun Q50 hN51=>?_) ?_
 ·simp only [t8,a0d]
  simp only [qf (g:=39),B0,reduceIte,a9]
  refine zj (t:=((!(zw d8.K 0 (a0a .i64 ((t6 f0.Nodes:Int) - 1))))||(!(zw d8.To 0 (a0a .i64
    ((t6 f0.Nodes:Int) - 1)))))) (fun hg52=>?_) (fun hg52=>?_)
  ·simp only [hg52,qf (g:=39),jr,qf (g:=42),qbp,qx,qb,zo,qa,qo,B0,reduceIte,a9]
   exact hN51 _ _ ⟨hS49,by rw [orT hg52]; simp only [B0,reduceIte,a9],f44,f45,f46⟩
  ·simp only [hg52,qf (g:=39),q8,f47,qd,kh,qb,kz,B0,reduceIte,a9]
   refine jj 4 (fun fr' h'=>Sep h' (geL h.length) ([Blk1 b9 [.int .i64 0,.int .i64 0,.nil,.nil,
     .nil] 28]++([]))∧fr' 46 = .bool ((!(((decide (d8.Kind=4))||(decide (d8.Kind=5)))||(decide (d8.Kind=6))))&&(decide
     (d8.To≠0)))∧fr' 2 = .ref [.int .i64 f0.Truth.Epoch,.int .i64 f0.Truth.Leader,lst cI f0.Truth.InStep,lst qz f0.Nodes,
     lst qm f0.Acked] 0∧fr' 3 = .ref [.int .i64 d8.Kind,.int .i64 d8.K,.int .i64 d8.To,
     .int .i64 d8.N] 0∧fr' 4 = .ptr b9 0∧fr' 39 = .bool ((!(zw d8.K 0 (a0a .i64 ((t6 f0.Nodes:Int) - 1))))||(!(zw d8.To 0
     (a0a .i64 ((t6 f0.Nodes:Int) - 1)))))) (fun Q53 hN54=>?_) ?_
   ·simp only [t8,a0d]
    simp only [qf (g:=42),B0,reduceIte,a9]
    refine zj (t:=(!(((decide (d8.Kind=4))||(decide (d8.Kind=5)))||(decide (d8.Kind=6))))) (fun hg55=>?_) (fun hg55=>?_)
    ·simp only [hg55,qf (g:=42),zl,f45,qq,qb,s5,s9,t5,qr,qn,B0,reduceIte,a9]
     refine qg (v := .int .i64 d8.To) rfl ?_
     simp only [hg55,qf (g:=42),zl,qv,qb,ya,hg52,qf (g:=39),q8,qx,zo,qa,qo,B0,
       reduceIte,a9]
     exact hN54 _ _ ⟨hS49,by rw [yk hg55]; simp only [B0,reduceIte,a9],f44,f45,f46,by simp only [hg52,B0,reduceIte,a9]⟩
    ·simp only [hg55,qf (g:=42),jh,hg52,qf (g:=39),q8,qx,qb,zn,qa,qo,B0,reduceIte,a9]
     exact hN54 _ _ ⟨hS49,by rw [yj hg55]; simp only [B0,reduceIte,a9],f44,f45,f46,by simp only [hg52,B0,reduceIte,a9]⟩
   rintro fr56 h62 ⟨hS63,f57,f58,f59,f60,f61⟩
   simp only [t9,a0c]
   simp only [f61,hg52,qx,qb,zn,f57,qa,qo,B0,reduceIte,a9]
   exact hN51 _ _ ⟨hS63,by rw [orF hg52]; simp only [B0,reduceIte,a9],f58,f59,f60⟩
 rintro fr64 h69 ⟨hS70,f65,f66,f67,f68⟩
 simp only [t9,a0c]
 simp only [f65,qd,B0,reduceIte,a9]
 refine jj 14 (fun fr' h'=>Sep h' (geL h.length) ([Blk1 b9 [.int .i64 0,.int .i64 0,.nil,.nil,
   .nil] 28]++([]))∧fr' 62 = .bool ((((!(zw d8.K 0 (a0a .i64 ((t6 f0.Nodes:Int) - 1))))||(!(zw d8.To 0 (a0a .i64
   ((t6 f0.Nodes:Int) - 1)))))||((!(((decide (d8.Kind=4))||(decide (d8.Kind=5)))||(decide (d8.Kind=6))))&&(decide (d8.To≠0))))||(((decide
   (d8.Kind≠3))&&(decide (d8.Kind≠4)))&&(decide (d8.N≠0))))∧fr' 2 = .ref [.int .i64 f0.Truth.Epoch,.int .i64 f0.Truth.Leader,lst cI f0.Truth.InStep,
   lst qz f0.Nodes,lst qm f0.Acked] 0∧fr' 3 = .ref [.int .i64 d8.Kind,.int .i64 d8.K,.int .i64 d8.To,
   .int .i64 d8.N] 0∧fr' 4 = .ptr b9 0) (fun Q71 hN72=>?_) ?_
 ·simp only [t8,a0d]
  simp only [qf (g:=48),B0,reduceIte,a9]
  refine zj (t:=(((!(zw d8.K 0 (a0a .i64 ((t6 f0.Nodes:Int) - 1))))||(!(zw d8.To 0 (a0a .i64
    ((t6 f0.Nodes:Int) - 1)))))||((!(((decide (d8.Kind=4))||(decide (d8.Kind=5)))||(decide (d8.Kind=6))))&&(decide (d8.To≠0)))))
    (fun hg73=>?_) (fun hg73=>?_)
  ·simp only [hg73,qf (g:=48),jr,qf (g:=52),qbp,qf (g:=57),qx,qb,zo,qa,qo,B0,reduceIte,
    a9]
   exact hN72 _ _ ⟨hS70,by rw [orT hg73]; simp only [B0,reduceIte,a9],f66,f67,f68⟩
  ·simp only [hg73,qf (g:=48),q8,f67,qq,qb,s5,s9,t5,qr,qn,B0,reduceIte,a9]
   refine qg (v := .int .i64 d8.Kind) rfl ?_
   simp only [hg73,qf (g:=48),q8,qv,qb,ya,qd,B0,reduceIte,a9]
   refine jj 4 (fun fr' h'=>Sep h' (geL h.length) ([Blk1 b9 [.int .i64 0,.int .i64 0,.nil,.nil,
     .nil] 28]++([]))∧fr' 56 = .bool ((decide (d8.Kind≠3))&&(decide (d8.Kind≠4)))∧fr' 2 = .ref [.int .i64 f0.Truth.Epoch,.int .i64 f0.Truth.Leader,
     lst cI f0.Truth.InStep,lst qz f0.Nodes,lst qm f0.Acked] 0∧fr' 3 = .ref [.int .i64 d8.Kind,.int .i64 d8.K,.int .i64 d8.To,
     .int .i64 d8.N] 0∧fr' 4 = .ptr b9 0∧fr' 48 = .bool (((!(zw d8.K 0 (a0a .i64 ((t6 f0.Nodes:Int) - 1))))||(!(zw d8.To 0
     (a0a .i64 ((t6 f0.Nodes:Int) - 1)))))||((!(((decide (d8.Kind=4))||(decide (d8.Kind=5)))||(decide (d8.Kind=6))))&&(decide
     (d8.To≠0))))) (fun Q74 hN75=>?_) ?_
   ·simp only [t8,a0d]
    simp only [qf (g:=52),B0,reduceIte,a9]
    refine zj (t:=(decide (d8.Kind≠3))) (fun hg76=>?_) (fun hg76=>?_)
    ·simp only [hg76,qf (g:=52),zl,f67,qq,qb,s5,s9,t5,qr,qn,B0,reduceIte,a9]
     refine qg (v := .int .i64 d8.Kind) rfl ?_
     simp only [hg76,qf (g:=52),zl,qv,qb,ya,hg73,qf (g:=48),q8,qx,zo,qa,qo,B0,
       reduceIte,a9]
     exact hN75 _ _ ⟨hS70,by rw [yk hg76]; simp only [B0,reduceIte,a9],f66,f67,f68,by simp only [hg73,B0,reduceIte,a9]⟩
    ·simp only [hg76,qf (g:=52),jh,hg73,qf (g:=48),q8,qx,qb,zn,qa,qo,B0,reduceIte,a9]
     exact hN75 _ _ ⟨hS70,by rw [yj hg76]; simp only [B0,reduceIte,a9],f66,f67,f68,by simp only [hg73,B0,reduceIte,a9]⟩
   rintro fr77 h83 ⟨hS84,f78,f79,f80,f81,f82⟩
   simp only [t9,a0c]
   simp only [f82,hg73,qf (g:=48),q8,f78,qd,B0,reduceIte,a9]
   refine jj 4 (fun fr' h'=>Sep h' (geL h.length) ([Blk1 b9 [.int .i64 0,.int .i64 0,.nil,.nil,
     .nil] 28]++([]))∧fr' 61 = .bool (((decide (d8.Kind≠3))&&(decide (d8.Kind≠4)))&&(decide (d8.N≠0)))∧fr' 2 = .ref [.int .i64 f0.Truth.Epoch,
     .int .i64 f0.Truth.Leader,lst cI f0.Truth.InStep,lst qz f0.Nodes,lst qm f0.Acked] 0∧fr' 3 = .ref [.int .i64 d8.Kind,.int .i64 d8.K,
     .int .i64 d8.To,.int .i64 d8.N] 0∧fr' 4 = .ptr b9 0∧fr' 48 = .bool (((!(zw d8.K 0 (a0a .i64 ((t6 f0.Nodes:Int) - 1)))) ||
     (!(zw d8.To 0 (a0a .i64 ((t6 f0.Nodes:Int) - 1)))))||((!(((decide (d8.Kind=4))||(decide (d8.Kind=5)))||(decide
     (d8.Kind=6))))&&(decide (d8.To≠0))))) (fun Q85 hN86=>?_) ?_
   ·simp only [t8,a0d]
    simp only [qf (g:=57),B0,reduceIte,a9]
    refine zj (t:=((decide (d8.Kind≠3))&&(decide (d8.Kind≠4)))) (fun hg87=>?_) (fun hg87=>?_)
    ·simp only [hg87,qf (g:=57),zl,f80,qq,qb,s5,s9,t5,qr,qn,B0,reduceIte,a9]
     refine qg (v := .int .i64 d8.N) rfl ?_
     simp only [hg87,qf (g:=57),zl,qv,qb,ya,f82,hg73,qf (g:=48),q8,qx,zo,qa,qo,B0,
       reduceIte,a9]
     exact hN86 _ _ ⟨hS84,by rw [yk hg87]; simp only [B0,reduceIte,a9],f79,f80,f81,by simp only [f82,hg73,B0,reduceIte,a9]⟩
    ·simp only [hg87,qf (g:=57),jh,f82,hg73,qf (g:=48),q8,qx,qb,zn,qa,qo,B0,reduceIte,
      a9]
     exact hN86 _ _ ⟨hS84,by rw [yj hg87]; simp only [B0,reduceIte,a9],f79,f80,f81,by simp only [f82,hg73,B0,reduceIte,a9]⟩
   rintro fr88 h94 ⟨hS95,f89,f90,f91,f92,f93⟩
   simp only [t9,a0c]
   simp only [f93,hg73,qx,qb,zn,f89,qa,qo,B0,reduceIte,a9]
   exact hN72 _ _ ⟨hS95,by rw [orF hg73]; simp only [B0,reduceIte,a9],f90,f91,f92⟩
 rintro fr96 h101 ⟨hS102,f97,f98,f99,f100⟩
 simp only [t9,a0c]
 simp only [qa,qzu,f97,qy,B0,reduceIte,a9]
 refine qu (t:=((((!(zw d8.K 0 (a0a .i64 ((t6 f0.Nodes:Int) - 1))))||(!(zw d8.To 0 (a0a .i64
   ((t6 f0.Nodes:Int) - 1)))))||((!(((decide (d8.Kind=4))||(decide (d8.Kind=5)))||(decide (d8.Kind=6))))&&(decide (d8.To≠0))))||(((decide
   (d8.Kind≠3))&&(decide (d8.Kind≠4)))&&(decide (d8.N≠0))))) (fun hc103=>?_) (fun hc103=>?_)
 ·rw [iteT hc103] at hF
  simp only [qe,qc,run_build,evp,B0,reduceIte,a9]
  refine qg (v := .agg [.int .i64 0,.int .i64 0,.nil,.nil,.nil]) rfl ?_
  simp only [f100,zp,B0,reduceIte,a9]
  refine zm (us:=[.int .i64 0,.int .i64 0,.nil,.nil,.nil]) rfl (cs':=[.int .i64 0,.int .i64 0,.nil,.nil,
    .nil]) hS102 hW rfl rfl (nle rfl) rfl (fun h104 hS105=>?_)
  simp only [qd,qa,qw,B0,reduceIte,a9]
  have he:=qh hF
  subst he
  refine jv (ql (j6 (bb:=b9) (oo:=0) (v := .agg [.int .i64 0,.int .i64 0,.nil,.nil,
    .nil]) (f100) ((zr (a0r _ _ _ hS105)).trans rfl)) (ql (k8 (v := .bool false) (rfl)) zh)) ?_
  exact ⟨.nil,[],.nil,[],.nil,[],by first | trivial | rfl,a25,SlN.nil,a25,((a0s (hS105)) : Sep _ (geL h.length) ([]))⟩
 rw [iteF hc103] at hF
 simp only [zf,q0g,qe,qc,f98,qn,B0,reduceIte,a9]
 refine qg (v := .agg [.int .i64 f0.Truth.Epoch,.int .i64 f0.Truth.Leader,lst cI f0.Truth.InStep,lst qz f0.Nodes,lst qm f0.Acked]) rfl ?_
 obtain ⟨v106,hx107,hF108⟩:=qi hF
 simp only [zi,B0,reduceIte,a9]
 refine qbx rfl hS102 (ql (jo (ql qs (ql qs (ql z8 (ql z8 (ql z8 zh)))))) zh) (qj6
   (fun b hb=>decide_eq_true hb) f0 v106 hx107) ?_
 rintro _ h121 ⟨v109,c110,v113,c114,v117,c118,rfl,hv111,hv115,hv119,hS122⟩
 refine ⟨_,qdc (qj rfl (qj rfl (qj (a1r hv111) (qj (a4f hv115) (qj (a1r hv119) zq))))),hS122,
   (j9 (a2p hv111 (fun _=>rfl)) (j9 (SlN.pf hv115 Node.RO) (j9 (a2p hv119 (fun _=>rfl)) wl))),fun h123 hS124=>?_⟩
 have hS125:Sep h123 (geL h.length) (c110++(c114++(c118++([Blk1 b9 [.int .i64 0,.int .i64 0,.nil,.nil,.nil] 28]++([]))))):=by simpa only [a0f,
   a0z] using hS124
 simp only [kc,B0,reduceIte,a9]
 refine jp hS125 (fun b126 h127 hS128=>?_)
 simp only [zp,B0,reduceIte,a9]
 refine zm (us:=[.int .i64 v106.Truth.Epoch,.int .i64 v106.Truth.Leader,v109,v113,v117]) rfl (cs':=[.int .i64 v106.Truth.Epoch,.int .i64 v106.Truth.Leader,v109,
   v113,v117]) hS128 hW rfl (qj rfl (qj rfl (qj (a0g hv111) (qj (a10 hv115) (qj (a0g hv119) zq))))) (nle rfl) rfl (fun h130 hS131=>?_)
 simp only [qa,q2d,qe,qc,f99,qn,B0,reduceIte,a9]
 refine qg (v := .agg [.int .i64 d8.Kind,.int .i64 d8.K,.int .i64 d8.To,.int .i64 d8.N]) rfl ?_
 obtain ⟨v132,hx133,hF134⟩:=qi hF108
 simp only [zi,B0,reduceIte,a9]
 refine wc rfl (qk3 hW k b126 v106 v109 c110 hv111 v113 c114 hv115 v117 c118 hv119 d8 v132 hx133 (a0e (a0e (a0e (a0e hS131))))) ?_
 rintro _ h145 ⟨v135,c136,c139,v141,c142,rfl,hv137,hv140,hv143,hS146⟩
 simp only [kh,qb,kz,qd,B0,reduceIte,a9]
 obtain ⟨v150,hx151,hF152⟩:=qi hF134
 refine jj 4 (fun fr' h'=>Sep h' (geL h.length) ([Blk1 b9 [.int .i64 0,.int .i64 0,.nil,.nil,.nil] 28]++([Blk1 b126 [.int .i64 v132.2.Truth.Epoch,
   .int .i64 v132.2.Truth.Leader,v135,v113,
   v141] 28]++(c136++(c139++(c142++([]))))))∧fr' 73 = .bool v150∧fr' 4 = .ptr b9 0∧fr' 8 = .ptr b126 0) (fun Q147 hN148=>?_) ?_
 ·simp only [t8,a0d]
  simp only [qf (g:=69),B0,reduceIte,a9]
  refine zj (t:=(!v132.1)) (fun hg149=>?_) (fun hg149=>?_)
  ·rw [iteT hg149] at hx151
   simp only [hg149,qf (g:=69),jr,qx,qb,zo,qa,qo,B0,reduceIte,a9]
   have e153:=qh hx151
   exact hN148 _ _ ⟨(a0i (a0e (a0e (a0e (a0e hS146))))),by rw [←e153]; simp only [B0,reduceIte,a9],f100,rfl⟩
  ·rw [iteF hg149] at hx151
   simp only [hg149,qf (g:=69),q8,qn,B0,reduceIte,a9]
   refine qg (v := .agg [.int .i64 v132.2.Truth.Epoch,.int .i64 v132.2.Truth.Leader,v135,v113,v141]) ((zr (a0r _ _ _ hS146)).trans rfl) ?_
   obtain ⟨v154,hx155,hF156⟩:=qi hx151
   simp only [hg149,qf (g:=69),q8,zi,B0,reduceIte,a9]
   refine ju rfl (ql (jo (ql qs (ql qs (ql (a06 hv137 (a0l hS146) rfl (fun _=>rfl) (fun _=>rfl)) (ql (SlN.snap hv140 _
     (a0k hS146) rfl Node.RO) (ql (a06 hv143 (a0e hS146) rfl (fun _=>rfl) (fun _=>rfl)) zh)))))) zh) (qlm
     (fun b hb=>decide_eq_true hb) v132.2 v154 hx155) ?_
   simp only [hg149,qf (g:=69),q8,kh,qb,kz,qx,zn,qa,qo,B0,reduceIte,a9]
   have e157:=qh hF156
   exact hN148 _ _ ⟨(a0i (a0e (a0e (a0e (a0e hS146))))),by rw [←e157]; simp only [B0,reduceIte,a9],f100,rfl⟩
 rintro fr158 h162 ⟨hS163,f159,f160,f161⟩
 simp only [t9,a0c]
 simp only [qa,q58,f159,qy,B0,reduceIte,a9]
 refine qu (t:=v150) (fun hc164=>?_) (fun hc164=>?_)
 ·rw [iteT hc164] at hF152
  simp only [qe,qc,run_build,evp,B0,reduceIte,a9]
  refine qg (v := .agg [.int .i64 0,.int .i64 0,.nil,.nil,.nil]) rfl ?_
  simp only [f160,zp,B0,reduceIte,a9]
  refine zm (us:=[.int .i64 0,.int .i64 0,.nil,.nil,.nil]) rfl (cs':=[.int .i64 0,.int .i64 0,.nil,.nil,
    .nil]) hS163 hW rfl rfl (nle rfl) rfl (fun h165 hS166=>?_)
  simp only [qd,qa,qw,B0,reduceIte,a9]
  have he:=qh hF152
  subst he
  refine jv (ql (j6 (bb:=b9) (oo:=0) (v := .agg [.int .i64 0,.int .i64 0,.nil,.nil,
    .nil]) (f160) ((zr (a0r _ _ _ hS166)).trans rfl)) (ql (k8 (v := .bool false) (rfl)) zh)) ?_
  exact ⟨.nil,[],.nil,[],.nil,[],by first | trivial | rfl,a25,SlN.nil,a25,
    ((a0s ((a0s ((a0s ((a0s ((a0s (hS166)))))))))) : Sep _ (geL h.length) ([]))⟩
 rw [iteF hc164] at hF152
 simp only [zf,qe,qc,f161,qn,B0,reduceIte,a9]
 refine qg (v := .agg [.int .i64 v132.2.Truth.Epoch,.int .i64 v132.2.Truth.Leader,v135,v113,v141]) ((zr (a0r _ _ _ (a0l hS163))).trans rfl) ?_
 simp only [f160,zp,B0,reduceIte,a9]
 refine zm (us:=[.int .i64 v132.2.Truth.Epoch,.int .i64 v132.2.Truth.Leader,v135,v113,v141]) rfl (cs':=[.int .i64 v132.2.Truth.Epoch,
   .int .i64 v132.2.Truth.Leader,v135,v113,
   v141]) hS163 hW rfl (qj rfl (qj rfl (qj (a0g hv137) (qj (a10 hv140) (qj (a0g hv143) zq))))) (nle rfl) rfl (fun h167 hS168=>?_)
 simp only [qd,qa,qw,B0,reduceIte,a9]
 have he:=qh hF152
 subst he
 refine jv (ql (j6 (bb:=b9) (oo:=0) (v := .agg [.int .i64 v132.2.Truth.Epoch,.int .i64 v132.2.Truth.Leader,v135,v113,
   v141]) (f160) ((zr (a0r _ _ _ hS168)).trans rfl)) (ql (k8 (v := .bool true) (rfl)) zh)) ?_
 exact ⟨v135,c136,v113,c139,v141,c142,by first | trivial | rfl,hv137,hv140,hv143,(a0k (a0k (a0k (a0s ((a0s (hS168)))))))⟩
theorem qf5 {W:Nat→Bool}{h:Heap} (hW:∀ b,
  (geL h.length) b→W b=true) (k:Nat) (i7:Int) (r7:List ClusterStep) (r:Cluster × (List Bool) × Bool)
  (hF:x8 k i7 r7=some r) : Ret E W 28 [.int .i64 i7,lst za r7] h (fun v h'=>∃ n9 l9 p9 m0 o8 n7 rv1 rc1,
  v = .tup [.agg [.int .i64 r.1.Truth.Epoch,.int .i64 r.1.Truth.Leader,n9,p9,o8],rv1,
  .bool r.2.2]∧SlF cI 1 3 n9 r.1.Truth.InStep l9∧SlN Node.R 6 68 p9 r.1.Nodes m0∧SlF qm 2 92 o8 r.1.Acked n7∧SlF cB 1 4 rv1 r.2.1 rc1∧Sep h'
  (geL h.length) (l9++(m0++(n7++(rc1++([])))))):=by
 refine Ret.of (fn:=x28) rfl (Run.of ?_)
 unfold x8 at hF
 have zf0:zb [.int .i64 i7,lst za r7] 0 = .int .i64 i7:=rfl
 have zf1:zb [.int .i64 i7,lst za r7] 1=lst za r7:=rfl
 generalize zb [.int .i64 i7,lst za r7]=fr0 at zf0 zf1 ⊢
 have hS:Sep h (geL h.length) []:=a1q h
 simp only [x28,qe,qc,kc,B0,reduceIte,a9]
 refine jp hS (fun b1 h2 hS3=>?_)
 simp only [qd,qa,qvk,qe,qc,zf0,zi,B0,reduceIte,a9]
 refine ju rfl (ql qs (ql qs (ql qs zh))) (xn (fun b hb=>decide_eq_true hb) i7 2 4 _ rfl) ?_
 simp only [kh,qb,kz,qd,B0,reduceIte,a9]
 refine jj 4 (fun fr' h'=>Sep h' (geL h.length) ([Blk1 b1 [.int .i64 0,.int .i64 0,.nil,.nil,
   .nil] 28]++([]))∧fr' 20 = .bool ((!(zw i7 2 4))||(decide ((100:Int) <
   (t6 r7:Int))))∧fr' 0 = .int .i64 i7∧fr' 1=lst za r7∧fr' 4 = .ptr b1 0) (fun Q5 hN6=>?_) ?_
 ·simp only [t8,a0d]
  simp only [qf (g:=16),B0,reduceIte,a9]
  refine zj (t:=(!(zw i7 2 4))) (fun hg7=>?_) (fun hg7=>?_)
  ·simp only [hg7,qf (g:=16),jr,qx,qb,zo,qa,qo,B0,reduceIte,a9]
   exact hN6 _ _ ⟨hS3,by rw [orT hg7]; simp only [B0,reduceIte,a9],zf0,zf1,rfl⟩
  ·simp only [hg7,qf (g:=16),q8,zf1,qd,zy,qb,je,qv,qj3,qx,zn,qa,qo,B0,reduceIte,
    a9]
   exact hN6 _ _ ⟨hS3,by rw [orF hg7]; simp only [B0,reduceIte,a9],zf0,zf1,rfl⟩
 rintro fr8 h13 ⟨hS14,f9,f10,f11,f12⟩
 simp only [t9,a0c]
 simp only [qa,q2v,f9,qy,B0,reduceIte,a9]
 refine qu (t:=((!(zw i7 2 4))||(decide ((100:Int)<(t6 r7:Int))))) (fun hc15=>?_) (fun hc15=>?_)
 ·rw [iteT hc15] at hF
  simp only [qzi,qe,qc,run_build,evp,B0,reduceIte,a9]
  refine qg (v := .agg [.int .i64 0,.int .i64 0,.nil,.nil,.nil]) rfl ?_
  simp only [f12,zp,B0,reduceIte,a9]
  refine zm (us:=[.int .i64 0,.int .i64 0,.nil,.nil,.nil]) rfl (cs':=[.int .i64 0,.int .i64 0,.nil,.nil,
    .nil]) hS14 hW rfl rfl (nle rfl) rfl (fun h16 hS17=>?_)
  simp only [qd,qa,qw,B0,reduceIte,a9]
  have he:=qh hF
  subst he
  refine jv (ql (j6 (bb:=b1) (oo:=0) (v := .agg [.int .i64 0,.int .i64 0,.nil,.nil,
    .nil]) (f12) ((zr (a0r _ _ _ hS17)).trans rfl)) (ql (k8 (v := .nil) (rfl)) (ql (k8 (v := .bool false) (rfl)) zh))) ?_
  exact ⟨.nil,[],.nil,[],.nil,[],.nil,[],by first | trivial | rfl,a25,SlN.nil,a25,a25,((a0s (hS17)) : Sep _ (geL h.length) ([]))⟩
 rw [iteF hc15] at hF
 obtain ⟨v18,hx19,hF20⟩:=qi hF
 simp only [zf,qv1,qe,qc,f10,qd,zi,B0,reduceIte,a9]
 refine qbx rfl hS14 (ql qs zh) (qk2 (fun b hb=>decide_eq_true hb) i7 v18 hx19) ?_
 rintro _ h33 ⟨v21,c22,v25,c26,v29,c30,rfl,hv23,hv27,hv31,hS34⟩
 refine ⟨_,qdc (qj rfl (qj rfl (qj (a1r hv23) (qj (a4f hv27) (qj (a1r hv31) zq))))),hS34,
   (j9 (a2p hv23 (fun _=>rfl)) (j9 (SlN.pf hv27 Node.RO) (j9 (a2p hv31 (fun _=>rfl)) wl))),fun h35 hS36=>?_⟩
 have hS37:Sep h35 (geL h.length) (c22++(c26++(c30++([Blk1 b1 [.int .i64 0,.int .i64 0,.nil,.nil,.nil] 28]++([]))))):=by simpa only [a0f,
   a0z] using hS36
 simp only [kc,B0,reduceIte,a9]
 refine jp hS37 (fun b38 h39 hS40=>?_)
 simp only [zp,B0,reduceIte,a9]
 refine zm (us:=[.int .i64 v18.Truth.Epoch,.int .i64 v18.Truth.Leader,v21,v25,v29]) rfl (cs':=[.int .i64 v18.Truth.Epoch,.int .i64 v18.Truth.Leader,v21,v25,
   v29]) hS40 hW rfl (qj rfl (qj rfl (qj (a0g hv23) (qj (a10 hv27) (qj (a0g hv31) zq))))) (nle rfl) rfl (fun h42 hS43=>?_)
 simp only [qa,qvt,qe,qc,yh,evp,B0,reduceIte,a9]
 refine kx (n:=1) (f:=cB) ([] : List Bool) hS43 rfl rfl (fun v44 c45 h46 hv47 hS48=>?_)
 simp only [qd,qa,qs8,qe,qc,f11,zy,qb,je,B0,reduceIte,a9]
 obtain ⟨oc88,hX90,hk91⟩:=jy hF20
 simp only [q24]
 refine xd (σ:=(List Bool) × Cluster) r7 (fun i86 x87 s198=>xz k i86 x87 s198.1 s198.2) (fun s fr' h'=>∃ v70 c71 v75 c76 v79 c80 v83 c84,
   fr' 4 = .ptr b1 0∧fr' 7 = .ptr b38 0∧fr' 8=v70∧fr' 25=lst za r7∧SlF cB 1 4 v70 s.1 c71∧SlF cI 1 3 v75 s.2.Truth.InStep c76∧SlN Node.R 6 68 v79 s.2.Nodes c80∧SlF qm 2 92 v83 s.2.Acked c84∧Sep h'
   (geL h.length) ([Blk1 b1 [.int .i64 0,.int .i64 0,.nil,.nil,.nil] 28]++([Blk1 b38 [.int .i64 s.2.Truth.Epoch,.int .i64 s.2.Truth.Leader,v75,v79,
   v83] 28]++(c71++(c76++(c80++(c84++([])))))))) hX90 ⟨v44,c45,v21,c22,v25,c26,v29,c30,f12,rfl,rfl,rfl,hv47,hv23,hv27,hv31,
   (a03 (a0i (a0e (a0i (a0i (a0i hS48))))))⟩ (by simp only [B0,reduceIte,a9]) (by simp only [B0,reduceIte,
   a9]) (fun _ _ _ h=>h) rfl rfl (fun _ _ _ _ h=>h) (fun _ _ _ _ h=>h) (fun _ _ _ _ h=>h) (by decide) ?_ ?_
 ·rintro i86 x87 ⟨s68,s73⟩ fr100 h101 hx107 ⟨v70,c71,v75,c76,v79,c80,v83,c84,f103,f104,f105,f106,hv72,hv77,hv81,hv85,
   hS102⟩ f108 f109 oc89 hF92 hr93 Q94 hN95 hB99 hK96 hR97 hE98
  dsimp only at *
  unfold xz at hF92
  simp only [q2l,qe,qc,f106,f108,ji,B0,reduceIte,a9]
  refine qg (v := .ref (za x87) 0) (xg hx107 rfl) ?_
  simp only [qn,B0,reduceIte,a9]
  refine qg (v := .agg [.int .i64 x87.Kind,.int .i64 x87.K,.int .i64 x87.To,.int .i64 x87.N]) rfl ?_
  simp only [kc,B0,reduceIte,a9]
  refine jp hS102 (fun b110 h111 hS112=>?_)
  simp only [zp,B0,reduceIte,a9]
  refine zm (us:=[.int .i64 x87.Kind,.int .i64 x87.K,.int .i64 x87.To,.int .i64 x87.N]) rfl (cs':=[.int .i64 x87.Kind,.int .i64 x87.K,.int .i64 x87.To,
    .int .i64 x87.N]) hS112 hW rfl rfl (nle rfl) rfl (fun h114 hS115=>?_)
  simp only [qa,B0,reduceIte,a9]
  refine jc hS115 hW (by simp only [B0,reduceIte,a9]) (fun h116 hS117=>?_)
  simp only [jd,q4n,qe,qc,f104,qn,B0,reduceIte,a9]
  refine qg (v := .agg [.int .i64 s73.Truth.Epoch,.int .i64 s73.Truth.Leader,v75,v79,v83]) ((zr (a0r _ _ _ (a0l hS117))).trans rfl) ?_
  simp only [qn,B0,reduceIte,a9]
  refine qg (v := .agg [.int .i64 x87.Kind,.int .i64 x87.K,.int .i64 x87.To,.int .i64 x87.N]) rfl ?_
  obtain ⟨v118,hx119,hF120⟩:=qi hF92
  simp only [zi,B0,reduceIte,a9]
  refine qbx rfl hS117 (ql (jo (ql qs (ql qs (ql (a06 hv77 (a0e hS117) rfl (fun _=>rfl) (fun _=>rfl)) (ql (SlN.snap hv81 _
    (a0i hS117) rfl Node.RO) (ql (a06 hv85 (a03 hS117) rfl (fun _=>rfl) (fun _=>rfl)) zh)))))) (ql (jo (ql qs (ql qs
    (ql qs (ql qs zh))))) zh)) (qjy (fun b hb=>decide_eq_true hb) k s73 x87 v118 hx119) ?_
  rintro _ h133 ⟨v121,c122,v125,c126,v129,c130,rfl,hv123,hv127,hv131,hS134⟩
  refine ⟨_,qkc (qj (qis (qj rfl (qj rfl (qj (a1r hv123) (qj (a4f hv127) (qj (a1r hv131) zq)))))) (qj rfl zq)),hS134,
    (j9 (a2p hv123 (fun _=>rfl)) (j9 (SlN.pf hv127 Node.RO) (j9 (a2p hv131 (fun _=>rfl)) wl))),fun h135 hS136=>?_⟩
  have hS137:Sep h135 (geL h.length) (c122++(c126++(c130++([Blk1 b1 [.int .i64 0,.int .i64 0,.nil,.nil,.nil] 28]++([Blk1 b38 [.int .i64 s73.Truth.Epoch,
    .int .i64 s73.Truth.Leader,v75,v79,v83] 28]++(c71++(c76++(c80++(c84++([])))))))))):=by simpa only [a0f,a0z] using hS136
  simp only [qd,qb7,qb,qcb,qb1,kc,B0,reduceIte,a9]
  refine jp hS137 (fun b138 h139 hS140=>?_)
  simp only [zp,B0,reduceIte,a9]
  refine zm (us:=[.int .i64 v118.1.Truth.Epoch,.int .i64 v118.1.Truth.Leader,v121,v125,v129]) rfl (cs':=[.int .i64 v118.1.Truth.Epoch,
    .int .i64 v118.1.Truth.Leader,v121,v125,
    v129]) hS140 hW rfl (qj rfl (qj rfl (qj (a0g hv123) (qj (a10 hv127) (qj (a0g hv131) zq))))) (nle rfl) rfl (fun h142 hS143=>?_)
  simp only [qd,qa,B0,reduceIte,a9]
  refine jc hS143 hW (by simp only [B0,reduceIte,a9]) (fun h144 hS145=>?_)
  simp only [jd,q6a,qe,qc,qd,qa,q6m,qy,B0,reduceIte,a9]
  obtain ⟨s146,hX160,hk161⟩:=qi hF120
  refine qf4 (t:=v118.2) (fun fr' h'=>∃ v148 c149 v152 c153 v156 c157,
    fr' 4 = .ptr b1 0∧fr' 7 = .ptr b38 0∧fr' 8=v70∧fr' 12 = .bool v118.2∧fr' 25=lst za r7∧fr' 26 = .int .i64
    (t6 r7:Int)∧fr' 27 = .int .i64
    (i86:Int)∧SlF cI 1 3 v148 s146.Truth.InStep c149∧SlN Node.R 6 68 v152 s146.Nodes c153∧SlF qm 2 92 v156 s146.Acked c157∧Sep h' (geL h.length)
    ([Blk1 b1 [.int .i64 0,.int .i64 0,.nil,.nil,.nil] 28]++([Blk1 b38 [.int .i64 s146.Truth.Epoch,.int .i64 s146.Truth.Leader,v148,v152,
    v156] 28]++(c71++(c149++(c153++(c157++([])))))))) (fun Q162 hN163 hR164 hE165=>⟨fun hc166=>?_,fun hc166=>?_⟩) ?_
  ·rw [iteT hc166] at hX160
   simp only [qc,qn,B0,reduceIte,a9]
   refine qg (v := .agg [.int .i64 v118.1.Truth.Epoch,.int .i64 v118.1.Truth.Leader,v121,v125,v129]) rfl ?_
   simp only [f104,zp,B0,reduceIte,a9]
   refine zm (us:=[.int .i64 v118.1.Truth.Epoch,.int .i64 v118.1.Truth.Leader,v121,v125,v129]) rfl (cs':=[.int .i64 v118.1.Truth.Epoch,
     .int .i64 v118.1.Truth.Leader,v121,v125,
     v129]) (a0i hS145) hW rfl (qj rfl (qj rfl (qj (a0g hv123) (qj (a10 hv127) (qj (a0g hv131) zq))))) (nle rfl) rfl (fun h167 hS168=>?_)
   simp only [qa,qo,B0,reduceIte,a9]
   have e169:=qh hX160
   subst e169
   exact hN163 _ _ ⟨v121,c122,v125,c126,v129,c130,f103,f104,f105,rfl,f106,f109,f108,hv123,hv127,hv131,
     (a03 (a0i (a03 (a0e (a0e (a0e (a0s (a0v (a0s (a0v (a0s (a0v hS168))))))))))))⟩
  ·rw [iteF hc166] at hX160
   simp only [zf,qo,B0,reduceIte,a9]
   have e170:=qh hX160
   subst e170
   exact hN163 _ _ ⟨v75,c76,v79,c80,v83,c84,f103,f104,f105,rfl,f106,f109,f108,hv77,hv81,hv85,
     (a03 (a03 (a03 (a03 (a03 (a03 (a0s ((a0s ((a0s (hS145))))))))))))⟩
  rintro fr171 h172 ⟨v148,c149,v152,c153,v156,c157,f174,f175,f176,f177,f178,f179,f180,hv150,hv154,hv158,hS173⟩
  unfold qa6 at hk161
  simp only [q1a,qc,f176,qd,f177,yh,evp,B0,reduceIte,a9]
  refine kx (n:=1) (f:=cB) [v118.2] hS173 rfl rfl (fun v181 c182 h183 hv184 hS185=>?_)
  simp only [wt,B0,reduceIte,a9]
  obtain ⟨l187,hx188,hF189⟩:=qi hk161
  refine yn (f:=cB) hv72 (a0e hS185) hW (fun _=>rfl) (fun _=>rfl) (SlF.first hv184 hS185 (fun _=>rfl)) hx188 (fun v190 c191 h192 hv193 hS194=>?_)
  simp only [qd,qa,qo,B0,reduceIte,a9]
  have e196:=qh hF189
  exact hN95 _ _ _ e196.symm ⟨v190,c191,v148,c149,v152,c153,v156,c157,f174,f175,rfl,f178,hv193,hv150,hv154,hv158,
    (a03 (a03 (a0e (a03 (a03 (a03 (a0s (a0l hS194))))))))⟩ (f180) (f179)
 rintro ⟨s199,s204⟩ fr217 h218 rfl ⟨v201,c202,v206,c207,v210,c211,v214,c215,f220,f221,f222,f223,hv203,hv208,hv212,hv216,hS219⟩
 dsimp only [jnO] at hk91
 dsimp only at *
 unfold qfc at hk91
 simp only [qww,qe,qc,f221,qn,B0,reduceIte,a9]
 refine qg (v := .agg [.int .i64 s204.Truth.Epoch,.int .i64 s204.Truth.Leader,v206,v210,v214]) ((zr (a0r _ _ _ (a0l hS219))).trans rfl) ?_
 simp only [f222,qd,f220,zp,B0,reduceIte,a9]
 refine zm (us:=[.int .i64 s204.Truth.Epoch,.int .i64 s204.Truth.Leader,v206,v210,v214]) rfl (cs':=[.int .i64 s204.Truth.Epoch,.int .i64 s204.Truth.Leader,v206,
   v210,v214]) hS219 hW rfl (qj rfl (qj rfl (qj (a0g hv208) (qj (a10 hv212) (qj (a0g hv216) zq))))) (nle rfl) rfl (fun h224 hS225=>?_)
 simp only [qd,qa,qw,B0,reduceIte,a9]
 have he:=qh hk91
 subst he
 refine jv (ql (j6 (bb:=b1) (oo:=0) (v := .agg [.int .i64 s204.Truth.Epoch,.int .i64 s204.Truth.Leader,v206,v210,
   v214]) (f220) ((zr (a0r _ _ _ hS225)).trans rfl)) (ql (k8 (v:=v201) (rfl)) (ql (k8 (v := .bool true) (rfl)) zh))) ?_
 exact ⟨v206,c207,v210,c211,v214,c215,v201,c202,by first | trivial | rfl,hv208,hv212,hv216,hv203,(a0e (a0e (a0e (a0s ((a0s (hS225)))))))⟩
theorem qfj {W:Nat→Bool}{h:Heap} (hW:∀ b,
  (geL h.length) b→W b=true) (k:Nat) (i0:List Bool) (i6:List Bool) (r:Bool) (hF:qaw k i0 i6=some r) : Ret E W 29 [lst cB i0,
  lst cB i6] h (fun v h'=>cut h.length h' E.sz false 9 v=some (.bool r)):=by
 refine Ret.of (fn:=x29) rfl (Run.of ?_)
 unfold qaw at hF
 have zf0:zb [lst cB i0,lst cB i6] 0=lst cB i0:=rfl
 have zf1:zb [lst cB i0,lst cB i6] 1=lst cB i6:=rfl
 generalize zb [lst cB i0,lst cB i6]=fr0 at zf0 zf1 ⊢
 have hS:Sep h (geL h.length) []:=a1q h
 simp only [x29,qe,qc,qd,qa,q6u,zf0,zy,qb,je,zf1,qv,ya,qy,B0,reduceIte,a9]
 refine qu (t:=(decide ((t6 i0:Int)≠(t6 i6:Int)))) (fun hc1=>?_) (fun hc1=>?_)
 ·rw [iteT hc1] at hF
  simp only [qe,qc,qd,qa,qw,B0,reduceIte,a9]
  have he:=qh hF
  subst he
  simp only [q9,B0,reduceIte,a9]
  exact rfl
 rw [iteF hc1] at hF
 simp only [zf,q4l,qe,qc,qd,qa,B0,reduceIte,a9]
 obtain ⟨oc6,hX8,hk9⟩:=jy hF
 simp only [q0f]
 refine y8 (σ:=Int) (fun s38=>qbi i0 i6 s38) (fun s fr' h'=>fr' 0=lst cB i0∧fr' 1=lst cB i6∧fr' 5 = .int .i64 s∧Sep h' (geL h.length)
   ([])) hX8 ⟨zf0,zf1,rfl,hS⟩ (fun _ _ _ h=>h) ?_ ?_
 ·rintro s3 fr18 h19 ⟨f21,f22,f23,hS20⟩ oc7 hF10 hr11 Q12 hN13 hK14 hR15 hE16
  unfold qbi at hF10
  simp only [q2u,qe,qc,f23,qd,f21,zy,qb,je,qv,k6,qa,qy,B0,reduceIte,a9]
  refine qu (t:=(decide (s3<(t6 i0:Int)))) (fun hc25=>?_) (fun hc25=>?_)
  ·rw [iteT hc25] at hF10
   obtain ⟨x26,hx27,hF28⟩:=qi hF10
   simp only [zf,q4d,qe,kj,q8d,js,f21,zv,qk,f23,yv,B0,reduceIte,a9]
   refine qt (v := .ref (cB x26) 0) (kw hx27 rfl) ?_
   simp only [zu,B0,reduceIte,a9]
   refine qt (v := .bool x26) rfl ?_
   obtain ⟨x29,hx30,hF31⟩:=qi hF28
   simp only [f22,zv,qk,f23,yv,B0,reduceIte,a9]
   refine qt (v := .ref (cB x29) 0) (kw hx30 rfl) ?_
   simp only [zu,B0,reduceIte,a9]
   refine qt (v := .bool x29) rfl ?_
   simp only [zay,qk,qj4,zc,qy,B0,reduceIte,a9]
   refine qu (t:=(!(x26 == x29))) (fun hc32=>?_) (fun hc32=>?_)
   ·rw [iteT hc32] at hF31
    simp only [qe,qc,qd,qa,qw,B0,reduceIte,a9]
    have e33:=qh hF31
    subst e33
    have ho34:=hr11 _ rfl
    have hk35:=hk9
    rw [ho34] at hk35
    dsimp only [jnO] at hk35
    apply hR15
    have he:=qh hk35
    subst he
    simp only [q9,B0,reduceIte,a9]
    exact rfl
   rw [iteF hc32] at hF31
   simp only [zf,yd,qc,f23,qd,qv,qb,yx,qa,qo,B0,reduceIte,a9]
   have e36:=qh hF31
   exact hN13 _ _ _ e36.symm ⟨f21,f22,rfl,hS20⟩
  rw [iteF hc25] at hF10
  simp only [yf,yc,yp,B0,reduceIte,a9]
  have e37:=qh hF10
  exact hK14 _ _ _ e37.symm ⟨f21,f22,f23,hS20⟩
 rintro s39 fr40 h41 rfl ⟨f43,f44,f45,hS42⟩
 dsimp only [jnO] at hk9
 unfold qhx at hk9
 simp only [qe,qc,qd,qa,qw,B0,reduceIte,a9]
 have he:=qh hk9
 subst he
 simp only [q9,B0,reduceIte,a9]
 exact rfl
theorem qje {W:Nat→Bool}{h:Heap} (hW:∀ b,
  (geL h.length) b→W b=true) (i0:ClusterStep) (i6:ClusterStep) (r:Bool) (hF:ut i0 i6=some r) : Ret E W 66 [.agg [.int .i64 i0.Kind,
  .int .i64 i0.K,.int .i64 i0.To,.int .i64 i0.N],.agg [.int .i64 i6.Kind,.int .i64 i6.K,.int .i64 i6.To,
  .int .i64 i6.N]] h (fun v h'=>cut h.length h' E.sz false 9 v=some (.bool r)):=by
 refine Ret.of (fn:=x66) rfl (Run.of ?_)
 unfold ut at hF
 have zf0:zb [.agg [.int .i64 i0.Kind,.int .i64 i0.K,.int .i64 i0.To,.int .i64 i0.N],.agg [.int .i64 i6.Kind,.int .i64 i6.K,.int .i64 i6.To,
   .int .i64 i6.N]] 0 = .agg [.int .i64 i0.Kind,.int .i64 i0.K,.int .i64 i0.To,.int .i64 i0.N]:=rfl
 have zf1:zb [.agg [.int .i64 i0.Kind,.int .i64 i0.K,.int .i64 i0.To,.int .i64 i0.N],.agg [.int .i64 i6.Kind,.int .i64 i6.K,.int .i64 i6.To,
   .int .i64 i6.N]] 1 = .agg [.int .i64 i6.Kind,.int .i64 i6.K,.int .i64 i6.To,.int .i64 i6.N]:=rfl
 generalize zb [.agg [.int .i64 i0.Kind,.int .i64 i0.K,.int .i64 i0.To,.int .i64 i0.N],.agg [.int .i64 i6.Kind,.int .i64 i6.K,.int .i64 i6.To,
   .int .i64 i6.N]]=fr0 at zf0 zf1 ⊢
 have hS:Sep h (geL h.length) []:=a1q h
 simp only [x66,qe,qc,j7,zf0,B0,reduceIte,a9]
 refine jm (cs:=[.int .i64 i0.Kind,.int .i64 i0.K,.int .i64 i0.To,.int .i64 i0.N]) hS rfl rfl rfl (fun b1 h2 hS3=>?_)
 simp only [j7,zf1,B0,reduceIte,a9]
 refine jm (cs:=[.int .i64 i6.Kind,.int .i64 i6.K,.int .i64 i6.To,.int .i64 i6.N]) hS3 rfl rfl rfl (fun b5 h6 hS7=>?_)
 simp only [qd,qa,B0,reduceIte,a9]
 refine jc (a0l hS7) hW (by simp only [B0,reduceIte,a9]) (fun h9 hS10=>?_)
 refine jc hS10 hW (by simp only [B0,reduceIte,a9]) (fun h11 hS12=>?_)
 simp only [jd,q6s,qe,qc,qq,qb,s5,s9,t5,qr,qn,B0,reduceIte,a9]
 refine qg (v := .int .i64 i0.Kind) rfl ?_
 simp only [qq,qb,s5,s9,t5,qr,qn,B0,reduceIte,a9]
 refine qg (v := .int .i64 i6.Kind) rfl ?_
 simp only [qv,qb,ya,qa,qy,B0,reduceIte,a9]
 refine qu (t:=(decide (i0.Kind≠i6.Kind))) (fun hc13=>?_) (fun hc13=>?_)
 ·rw [iteT hc13] at hF
  simp only [qe,qc,qd,qa,qw,B0,reduceIte,a9]
  have he:=qh hF
  subst he
  simp only [q9,B0,reduceIte,a9]
  exact rfl
 rw [iteF hc13] at hF
 simp only [zf,q3v,qe,qc,qq,qb,s5,s9,t5,qr,qn,B0,reduceIte,a9]
 refine qg (v := .int .i64 i0.K) rfl ?_
 simp only [qq,qb,s5,s9,t5,qr,qn,B0,reduceIte,a9]
 refine qg (v := .int .i64 i6.K) rfl ?_
 simp only [qv,qb,ya,qa,qy,B0,reduceIte,a9]
 refine qu (t:=(decide (i0.K≠i6.K))) (fun hc14=>?_) (fun hc14=>?_)
 ·rw [iteT hc14] at hF
  simp only [qe,qc,qd,qa,qw,B0,reduceIte,a9]
  have he:=qh hF
  subst he
  simp only [q9,B0,reduceIte,a9]
  exact rfl
 rw [iteF hc14] at hF
 simp only [zf,q3x,qe,qc,qq,qb,s5,s9,t5,qr,qn,B0,reduceIte,a9]
 refine qg (v := .int .i64 i0.To) rfl ?_
 simp only [qq,qb,s5,s9,t5,qr,qn,B0,reduceIte,a9]
 refine qg (v := .int .i64 i6.To) rfl ?_
 simp only [qv,qb,ya,qa,qy,B0,reduceIte,a9]
 refine qu (t:=(decide (i0.To≠i6.To))) (fun hc15=>?_) (fun hc15=>?_)
 ·rw [iteT hc15] at hF
  simp only [qe,qc,qd,qa,qw,B0,reduceIte,a9]
  have he:=qh hF
  subst he
  simp only [q9,B0,reduceIte,a9]
  exact rfl
 rw [iteF hc15] at hF
 simp only [zf,q8n,qe,qc,qq,qb,s5,s9,t5,qr,qn,B0,reduceIte,a9]
 refine qg (v := .int .i64 i0.N) rfl ?_
 simp only [qq,qb,s5,s9,t5,qr,qn,B0,reduceIte,a9]
 refine qg (v := .int .i64 i6.N) rfl ?_
 simp only [qv,qb,ya,qa,qy,B0,reduceIte,a9]
 refine qu (t:=(decide (i0.N≠i6.N))) (fun hc16=>?_) (fun hc16=>?_)
 ·rw [iteT hc16] at hF
  simp only [qe,qc,qd,qa,qw,B0,reduceIte,a9]
  have he:=qh hF
  subst he
  simp only [q9,B0,reduceIte,a9]
  exact rfl
 rw [iteF hc16] at hF
 simp only [zf,qe,qc,qd,qa,qw,B0,reduceIte,a9]
 have he:=qh hF
 subst he
 simp only [q9,B0,reduceIte,a9]
 exact rfl
theorem qio {W:Nat→Bool}{h:Heap} (hW:∀ b,
  (geL h.length) b→W b=true) (k:Nat) (i0:List ClusterStep) (i6:List ClusterStep) (r:Bool)
  (hF:xy k i0 i6=some r) : Ret E W 30 [lst za i0,
  lst za i6] h (fun v h'=>cut h.length h' E.sz false 9 v=some (.bool r)):=by
 refine Ret.of (fn:=x30) rfl (Run.of ?_)
 unfold xy at hF
 have zf0:zb [lst za i0,lst za i6] 0=lst za i0:=rfl
 have zf1:zb [lst za i0,lst za i6] 1=lst za i6:=rfl
 generalize zb [lst za i0,lst za i6]=fr0 at zf0 zf1 ⊢
 have hS:Sep h (geL h.length) []:=a1q h
 simp only [x30,qe,qc,qd,qa,q5a,zf0,zy,qb,je,zf1,qv,ya,qy,B0,reduceIte,a9]
 refine qu (t:=(decide ((t6 i0:Int)≠(t6 i6:Int)))) (fun hc1=>?_) (fun hc1=>?_)
 ·rw [iteT hc1] at hF
  simp only [qe,qc,qd,qa,qw,B0,reduceIte,a9]
  have he:=qh hF
  subst he
  simp only [q9,B0,reduceIte,a9]
  exact rfl
 rw [iteF hc1] at hF
 simp only [zf,q8m,qe,qc,qd,qa,B0,reduceIte,a9]
 obtain ⟨oc6,hX8,hk9⟩:=jy hF
 simp only [q09]
 refine y8 (σ:=Int) (fun s41=>wx i0 i6 s41)
   (fun s fr' h'=>fr' 0=lst za i0∧fr' 1=lst za i6∧fr' 5 = .int .i64 s∧Sep h' (geL h.length) ([])) hX8 ⟨zf0,zf1,rfl,
   hS⟩ (fun _ _ _ h=>h) ?_ ?_
 ·rintro s3 fr18 h19 ⟨f21,f22,f23,hS20⟩ oc7 hF10 hr11 Q12 hN13 hK14 hR15 hE16
  unfold wx at hF10
  simp only [q3b,qe,qc,f23,qd,f21,zy,qb,je,qv,k6,qa,qy,B0,reduceIte,a9]
  refine qu (t:=(decide (s3<(t6 i0:Int)))) (fun hc25=>?_) (fun hc25=>?_)
  ·rw [iteT hc25] at hF10
   obtain ⟨x26,hx27,hF28⟩:=qi hF10
   simp only [zf,q2g,qe,kj,q4x,js,f21,zv,qk,f23,yv,B0,reduceIte,a9]
   refine qt (v := .ref (za x26) 0) (kw hx27 rfl) ?_
   simp only [zu,B0,reduceIte,a9]
   refine qt (v := .agg [.int .i64 x26.Kind,.int .i64 x26.K,.int .i64 x26.To,.int .i64 x26.N]) rfl ?_
   obtain ⟨x29,hx30,hF31⟩:=qi hF28
   simp only [f22,zv,qk,f23,yv,B0,reduceIte,a9]
   refine qt (v := .ref (za x29) 0) (kw hx30 rfl) ?_
   simp only [zu,B0,reduceIte,a9]
   refine qt (v := .agg [.int .i64 x29.Kind,.int .i64 x29.K,.int .i64 x29.To,.int .i64 x29.N]) rfl ?_
   obtain ⟨v32,hx33,hF34⟩:=qi hF31
   simp only [y9,B0,reduceIte,a9]
   refine qc3 rfl (ql (jo (ql qs (ql qs (ql qs (ql qs zh))))) (ql (jo (ql qs (ql qs
     (ql qs (ql qs zh))))) zh)) (qje (fun b hb=>decide_eq_true hb) x26 x29 v32 hx33) ?_
   simp only [qeu,qk,kz,zc,qy,B0,reduceIte,a9]
   refine qu (t:=(!v32)) (fun hc35=>?_) (fun hc35=>?_)
   ·rw [iteT hc35] at hF34
    simp only [qe,qc,qd,qa,qw,B0,reduceIte,a9]
    have e36:=qh hF34
    subst e36
    have ho37:=hr11 _ rfl
    have hk38:=hk9
    rw [ho37] at hk38
    dsimp only [jnO] at hk38
    apply hR15
    have he:=qh hk38
    subst he
    simp only [q9,B0,reduceIte,a9]
    exact rfl
   rw [iteF hc35] at hF34
   simp only [zf,yd,qc,f23,qd,qv,qb,yx,qa,qo,B0,reduceIte,a9]
   have e39:=qh hF34
   exact hN13 _ _ _ e39.symm ⟨f21,f22,rfl,hS20⟩
  rw [iteF hc25] at hF10
  simp only [yf,yc,yp,B0,reduceIte,a9]
  have e40:=qh hF10
  exact hK14 _ _ _ e40.symm ⟨f21,f22,f23,hS20⟩
 rintro s42 fr43 h44 rfl ⟨f46,f47,f48,hS45⟩
 dsimp only [jnO] at hk9
 unfold qeb at hk9
 simp only [qe,qc,qd,qa,qw,B0,reduceIte,a9]
 have he:=qh hk9
 subst he
 simp only [q9,B0,reduceIte,a9]
 exact rfl
end Go.Proofs.Ytohofoampalhoaa.X
