/- The functions' code comes to what the plain functions say (7). -/
import Derived.Test.YtohofoampalhoaaXGH6
open Go.IntKind renaming wrap→l4
open List renaming append_assoc→l5,drop_succ_cons→i0,drop_zero→i6,length→f0,nil_append→r7,set→a0u,take_succ_cons→f4,take_zero→i7
open Nat renaming add_zero→e8,reduceAdd→d8,reduceEqDiff→a9,zero_add→d9
open Go.Proofs.Ytohofoampalhoaa.X.Sep renaming bk→o9,dc→o8,m1→n7,m2→l9,m3→l6,m4→n9,m5→t9,m6→s9,m7→o7,ni3→a0q,no3→a1v
open Go.Proofs.Ytohofoampalhoaa.X.SlF renaming free1→a0n,ia→a16,isrow→a04,nil→a2z,one→l7,pf→a1j,plen→a1n,snap→a0c
open Go.Proofs.Ytohofoampalhoaa.X.SlG renaming cls0→a0z,cls→a2o,ld→a1u,opn→a1t,toN→a0s
open Go.Proofs.Ytohofoampalhoaa.X.SlN renaming one→a09,toG→a14
set_option linter.unusedVariables false
set_option linter.unusedSimpArgs false
set_option maxRecDepth 100000
namespace Go.Proofs.Ytohofoampalhoaa.X
open Go
theorem qi2 {W:Nat→Bool}{h:Heap}{lo:Nat→Prop}{S0:List Obj} (hW:∀ b,
  lo b→W b=true) (k:Nat) (pb0:Nat) (v_0:Cluster) (pv0_2:XV) (pc0_2:List Obj) (ph0_2:SlF cI 1 3 pv0_2 v_0.Truth.InStep pc0_2) (pv0_3:XV) (pc0_3:List Obj)
  (ph0_3:SlN Node.R 6 68 pv0_3 v_0.Nodes pc0_3) (pv0_4:XV) (pc0_4:List Obj) (ph0_4:SlF qg 2 92 pv0_4 v_0.Acked pc0_4) (v_1:ClusterStep) (r:Bool × Cluster)
  (hF:ug k v_0 v_1=some r) (hS:Sep h lo ([Blk1 pb0 [.int .i64 v_0.Truth.Epoch,.int .i64 v_0.Truth.Leader,pv0_2,pv0_3,
  pv0_4] 28]++(pc0_2++(pc0_3++(pc0_4++(S0)))))) : Ret E W 100 [.ptr pb0 0,.agg [.int .i64 v_1.Kind,.int .i64 v_1.K,.int .i64 v_1.To,
  .int .i64 v_1.N]] h (fun v h'=>∃ iv0_2 ic0_2 ic0_3 ic0_4,
  v = .bool r.1∧SlF cI 1 3 iv0_2 r.2.Truth.InStep ic0_2∧SlN Node.R 6 68 pv0_3 r.2.Nodes ic0_3∧SlF qg 2 92 pv0_4 r.2.Acked ic0_4∧Sep h' lo
  ([Blk1 pb0 [.int .i64 r.2.Truth.Epoch,.int .i64 r.2.Truth.Leader,iv0_2,pv0_3,pv0_4] 28]++(ic0_2++(ic0_3++(ic0_4++(S0)))))):=by
 refine Ret.of (fn:=qrj) rfl (Run.of ?_)
 unfold ug at hF
 have zf0:zb [.ptr pb0 0,.agg [.int .i64 v_1.Kind,.int .i64 v_1.K,.int .i64 v_1.To,.int .i64 v_1.N]] 0 = .ptr pb0 0:=rfl
 have zf1:zb [.ptr pb0 0,.agg [.int .i64 v_1.Kind,.int .i64 v_1.K,.int .i64 v_1.To,.int .i64 v_1.N]] 1 = .agg [.int .i64 v_1.Kind,.int .i64 v_1.K,.int .i64 v_1.To,
   .int .i64 v_1.N]:=rfl
 generalize zb [.ptr pb0 0,.agg [.int .i64 v_1.Kind,.int .i64 v_1.K,.int .i64 v_1.To,.int .i64 v_1.N]]=fr0 at zf0 zf1 ⊢
 simp only [qrj,qc,qd,jp,zf1,B0,reduceIte,a9]
 refine je (cs:=[.int .i64 v_1.Kind,.int .i64 v_1.K,.int .i64 v_1.To,.int .i64 v_1.N]) hS rfl rfl rfl (fun b1 h2 hS3=>?_)
 simp only [qf,qa,B0,reduceIte,a9]
 refine zx hS3 hW (by simp only [B0,reduceIte,a9]) (fun h5 hS6=>?_)
 simp only [zw,qqu,qc,js,zf0,zr,ql,kp,z9,jb,d8,d9,e8,zd,zt,B0,reduceIte,
   a9]
 refine qu (v:=pv0_3) ((jv (o9 _ _ _ hS6)).trans rfl) ?_
 simp only [jb,ql,d8,d9,e8,qs,zt,B0,reduceIte,a9]
 refine qu (v := .int .i64 v_1.K) rfl ?_
 obtain ⟨x7,hx8,hF9⟩:=qk hF
 simp only [yz,B0,reduceIte,a9]
 obtain ⟨b10,hb11⟩:=SlN.isrow ph0_3 (j9 hx8)
 refine qu (SlN.ia ph0_3 hb11 hx8) ?_
 simp only [zr,ql,za,qq6,qc,js,zf0,kp,z9,jb,d8,d9,e8,zd,zt,B0,reduceIte,
   a9]
 refine qu (v:=pv0_2) ((jv (o9 _ _ _ hS6)).trans rfl) ?_
 simp only [jb,ql,d8,d9,e8,qs,zt,B0,reduceIte,a9]
 refine qu (v := .int .i64 v_1.To) rfl ?_
 obtain ⟨v12,hx13,hF14⟩:=qk hF9
 simp only [ki,B0,reduceIte,a9]
 refine uy rfl (qi (a0c ph0_2 (n7 hS6) rfl (fun _=>rfl) (fun _=>rfl)) (qi qo zc)) (qgg
   (fun b hb=>decide_eq_true hb) k v_0.Truth.InStep v_1.To v12 hx13) ?_
 simp only [zr,ql,qjz,qcd,qcb,za,qqy,qc,qd,qt,qb,d8,d9,e8,qs,qn,B0,
   reduceIte,a9]
 refine qh (v := .int .i64 v_1.Kind) rfl ?_
 simp only [qz,qb,k6,qa,qra,q9,B0,reduceIte,a9]
 obtain ⟨oc23,hX24,hk25⟩:=ka hF14
 refine qh5 (t:=(decide (v_1.Kind=5))) (fun fr' h'=>∃ s,oc23 = .nxt s∧∃ v17 c18 c21,
   fr' 0 = .ptr pb0 0∧fr' 5 = .ptr b10 (v_1.K.toNat*6)∧SlF cI 1 3 v17 s.1.Truth.InStep c18∧SlN Node.R 6 68 pv0_3 s.2 c21∧Sep h' lo
   ([Blk1 pb0 [.int .i64 s.1.Truth.Epoch,.int .i64 s.1.Truth.Leader,v17,pv0_3,pv0_4] 28]++(c21++(c18++(pc0_4++(S0)))))) (fun Q26 hN27 hR28 hE29=>⟨fun hc30=>?_,
   fun hc30=>?_⟩) ?_
 ·rw [iteT hc30] at hX24
  simp only [qv1,qc,qd,qf,j8,qb,ko,B0,reduceIte,a9]
  refine ji 6 (fun fr' h'=>Sep h' lo ([Blk1 pb0 [.int .i64 v_0.Truth.Epoch,.int .i64 v_0.Truth.Leader,pv0_2,pv0_3,
    pv0_4] 28]++(pc0_3++(pc0_2++(pc0_4++(S0)))))∧fr' 40 = .bool ((!v12.2)||(decide (v_1.To=v_1.K)))∧fr' 0 = .ptr pb0 0∧fr' 5 = .ptr b10
    (v_1.K.toNat*6)∧fr' 6 = .int .i64 v12.1) (fun Q31 hN32=>?_) ?_
  ·simp only [f4,i7]
   simp only [qe (g:=34),B0,reduceIte,a9]
   refine ze (t:=(!v12.2)) (fun hg33=>?_) (fun hg33=>?_)
   ·simp only [hg33,qe (g:=34),jk,qw,qb,zo,qa,qp,B0,reduceIte,a9]
    exact hN32 _ _ ⟨(l6 (l6 (l9 (l6 hS6)))),by rw [orT hg33]; simp only [B0,reduceIte,a9],zf0,rfl,rfl⟩
   ·simp only [hg33,qe (g:=34),qv,qt,qb,d8,d9,e8,qs,qn,B0,reduceIte,a9]
    refine qh (v := .int .i64 v_1.To) rfl ?_
    simp only [hg33,qe (g:=34),qv,qt,qb,d8,d9,e8,qs,qn,B0,reduceIte,a9]
    refine qh (v := .int .i64 v_1.K) rfl ?_
    simp only [hg33,qe (g:=34),qv,qz,qb,k6,qw,zn,qa,qp,B0,reduceIte,a9]
    exact hN32 _ _ ⟨(l6 (l6 (l9 (l6 hS6)))),by rw [orF hg33]; simp only [B0,reduceIte,a9],zf0,rfl,rfl⟩
  rintro fr34 h39 ⟨hS40,f35,f36,f37,f38⟩
  simp only [i0,i6]
  simp only [qa,f35,q9,B0,reduceIte,a9]
  refine qy (t:=((!v12.2)||(decide (v_1.To=v_1.K)))) (fun hc41=>?_) (fun hc41=>?_)
  ·rw [iteT hc41] at hX24
   simp only [qc,qd,qf,qa,qx,B0,reduceIte,a9]
   have e42:=qj hX24
   subst e42
   have hk25':=hk25
   dsimp only [jnO] at hk25'
   apply hR28
   have he:=qj hk25'
   subst he
   simp only [q8,B0,reduceIte,a9]
   exact ⟨pv0_2,pc0_2,pc0_3,pc0_4,by first | trivial | rfl,ph0_2,ph0_3,ph0_4,(l6 (l6 (l9 (l6 hS40))))⟩
  rw [iteF hc41] at hX24
  simp only [zh,qui,qd,f36,qf,yj,qb,z9,qt,d8,d9,e8,zd,qn,B0,reduceIte,
    a9]
  refine qh (v:=pv0_2) ((jv (o9 _ _ _ hS40)).trans rfl) ?_
  obtain ⟨v43,hx44,hF45⟩:=qk hX24
  simp only [f38,qf,qz,qb,wn,zg,B0,reduceIte,a9]
  refine y9 rfl (qjr hW pv0_2 pc0_2 v_0.Truth.InStep ph0_2 v12.1 (l4 .i64 (v12.1+1)) v43 hx44 (l9 hS40)) ?_
  rintro v46 h50 ⟨_,c47,rfl,hv48,hS51⟩
  simp only [yj,qb,z9,qt,d8,d9,e8,zd,zp,B0,reduceIte,a9]
  refine zm (us:=[v46]) (kg (l7 hv48)) (cs':=[.int .i64 v_0.Truth.Epoch,.int .i64 v_0.Truth.Leader,v46,pv0_3,
    pv0_4]) (n7 hS51) hW rfl (qm (l7 hv48) zq) (nle rfl) rfl (fun h52 hS53=>?_)
  simp only [qa,qp,B0,reduceIte,a9]
  have e54:=qj hF45
  exact hN27 _ _ ⟨_,e54.symm,v46,c47,pc0_3,f36,f37,hv48,ph0_3,(l6 (l6 (l9 (l6 hS53))))⟩
 ·rw [iteF hc30] at hX24
  obtain ⟨c55,cs56,os57,hv58,hR59,hS60⟩:=a1t (a14 ph0_3 hb11 Node.RO.len) hx8 z8 Node.RO.len (l9 hS6)
  obtain ⟨v62,c63,v66,c67,v70,c71,hv64,hv68,hv72,rfl,rfl⟩:=hR59
  have hS61:=a1v hS60
  simp only [qq9,qc,qd,qf,qa,qqv,yj,qb,z9,qt,d8,d9,e8,zd,qn,B0,
    reduceIte,a9]
  refine qh (v:=v66) ((a1u (o:=3) hv58 rfl hx8 hS61 (nle rfl)).trans rfl) ?_
  simp only [zy,qb,a1n hv68,qf,qa,B0,reduceIte,a9]
  obtain ⟨oc78,hX80,hk81⟩:=ka hX24
  simp only [qtm]
  refine qgo (σ:=Int) (fun i76 s119=>y8 x7 i76 s119) (fun s fr' h'=>fr' 0 = .ptr pb0 0∧fr' 3 = .ref [.int .i64 v_1.Kind,.int .i64 v_1.K,
    .int .i64 v_1.To,.int .i64 v_1.N] 0∧fr' 5 = .ptr b10 (v_1.K.toNat*6)∧fr' 6 = .int .i64 v12.1∧fr' 7 = .bool v12.2∧fr' 8 = .int .i64 s∧fr' 57=v66∧Sep h' lo
    ([Blk1 pb0 [.int .i64 v_0.Truth.Epoch,.int .i64 v_0.Truth.Leader,pv0_2,pv0_3,pv0_4] 28]++(c55++(c67++(pc0_2++(pc0_4++(c63++(c71++(S0))))))))) hX80 ⟨zf0,
    rfl,rfl,rfl,rfl,rfl,rfl,(s9 (t9 (t9 (s9 (s9 (l9 (l6 hS61)))))))⟩ (by simp only [B0,reduceIte,a9]) (by simp only [B0,
    reduceIte,a9]) (fun _ _ _ h=>h) rfl rfl (fun _ _ _ _ h=>h) (fun _ _ _ _ h=>h) (fun _ _ _ _ h=>h) (by decide) ?_ ?_
  ·rintro i76 s75 fr90 h91 hx100 ⟨f93,f94,f95,f96,f97,f98,f99,hS92⟩ f101 f102 oc79 hF82 hr83 Q84 hN85 hB89 hK86 hR87 hE88
   unfold y8 at hF82
   obtain ⟨zj,hx104,hF105⟩:=qk hF82
   simp only [qv8,qc,qd,f99,f101,jl,B0,reduceIte,a9]
   obtain ⟨b106,hb107⟩:=a04 hv68 (j9 hx104)
   refine qh (a16 hv68 hb107 hx104) ?_
   simp only [qn,B0,reduceIte,a9]
   refine qh (v := .agg [.int .i64 zj.Epoch,.int .i64 zj.Value]) ((SlF.lds (o:=0) hv68 (l9 hS92) hb107 hx104 (fun _=>rfl) (nle rfl)).trans rfl) ?_
   simp only [kd,B0,reduceIte,a9]
   refine jt hS92 (fun b108 h109 hS110=>?_)
   simp only [zp,B0,reduceIte,a9]
   refine zm (us:=[.int .i64 zj.Epoch,.int .i64 zj.Value]) rfl (cs':=[.int .i64 zj.Epoch,
     .int .i64 zj.Value]) hS110 hW rfl rfl (nle rfl) rfl (fun h112 hS113=>?_)
   simp only [qa,B0,reduceIte,a9]
   refine zx hS113 hW (by simp only [B0,reduceIte,a9]) (fun h114 hS115=>?_)
   simp only [zw,qwx,qc,js,jb,ql,d8,d9,e8,qs,zt,B0,reduceIte,a9]
   refine qu (v := .int .i64 zj.Epoch) rfl ?_
   simp only [f95,zr,ql,kp,z9,jb,d8,d9,e8,zd,zt,B0,reduceIte,a9]
   refine qu (v := .int .i64 x7.View.Epoch) ((a1u (o:=0) hv58 rfl hx8 (n7 hS115) (nle rfl)).trans rfl) ?_
   simp only [k5,ql,kq,za,qwn,q9,B0,reduceIte,a9]
   refine qy (t:=(decide (zj.Epoch<x7.View.Epoch))) (fun hc116=>?_) (fun hc116=>?_)
   ·rw [iteT hc116] at hF105
    simp only [qd,f98,qf,qz,qb,wn,qa,qp,B0,reduceIte,a9]
    have e117:=qj hF105
    exact hN85 _ _ _ e117.symm ⟨f93,f94,f95,f96,f97,rfl,f99,(s9 (s9 (s9 (s9 (s9 (s9 (s9 hS115)))))))⟩ (f101) (f102)
   rw [iteF hc116] at hF105
   simp only [zh,qp,B0,reduceIte,a9]
   have e118:=qj hF105
   exact hN85 _ _ _ e118.symm ⟨f93,f94,f95,f96,f97,f98,f99,(s9 (s9 (s9 (s9 (s9 (s9 (s9 hS115)))))))⟩ (f101) (f102)
  rintro s120 fr121 h122 rfl ⟨f124,f125,f126,f127,f128,f129,f130,hS123⟩
  dsimp only [jnO] at hk81
  unfold uk at hk81
  simp only [qt0,qc,js,f128,zr,ql,B0,reduceIte,a9]
  obtain ⟨v134,hx135,hF136⟩:=qk hk81
  refine we 14 (fun fr' h'=>Sep h' lo ([Blk1 pb0 [.int .i64 v_0.Truth.Epoch,.int .i64 v_0.Truth.Leader,pv0_2,pv0_3,
    pv0_4] 28]++(c55++(pc0_2++(pc0_4++(c63++(c67++(c71++(S0))))))))∧fr' 89 = .bool v134∧fr' 0 = .ptr pb0 0∧fr' 3 = .ref [.int .i64 v_1.Kind,
    .int .i64 v_1.K,.int .i64 v_1.To,.int .i64 v_1.N] 0∧fr' 5 = .ptr b10 (v_1.K.toNat*6)∧fr' 6 = .int .i64 v12.1∧fr' 8 = .int .i64 s120) rfl (fun Q131 hN132=>?_) ?_
  ·simp only [f4,i7]
   simp only [qr (g:=75),B0,reduceIte,a9]
   refine jm (t:=v12.2) (fun hg133=>?_) (fun hg133=>?_)
   ·rw [iteT hg133] at hx135
    simp only [hg133,qr (g:=75),wo,jh,ql,zo,za,qp,B0,reduceIte,a9]
    have e137:=qj hx135
    exact hN132 _ _ ⟨(s9 (s9 (s9 (s9 (s9 (l6 (s9 hS123))))))),by rw [←e137]; simp only [B0,reduceIte,a9],f124,f125,f126,f127,
      f129⟩
   ·rw [iteF hg133] at hx135
    simp only [hg133,qr (g:=75),zz,f126,zr,ql,kp,z9,jb,d8,d9,e8,zd,zt,B0,
      reduceIte,a9]
    refine qu (v:=v70) ((a1u (o:=4) hv58 rfl hx8 (n7 hS123) (nle rfl)).trans rfl) ?_
    simp only [hg133,qr (g:=75),zz,f125,jb,ql,d8,d9,e8,qs,zt,B0,reduceIte,a9]
    refine qu (v := .int .i64 v_1.To) rfl ?_
    obtain ⟨x138,hx139,hF140⟩:=qk hx135
    simp only [hg133,qr (g:=75),zz,yz,B0,reduceIte,a9]
    obtain ⟨b141,hb142⟩:=a04 hv72 (j9 hx139)
    refine qu (a16 hv72 hb142 hx139) ?_
    simp only [hg133,qr (g:=75),zz,zt,B0,reduceIte,a9]
    refine qu (v := .int .i64 x138) ((SlF.ld (o:=0) hv72 (s9 hS123) hb142 hx139 (fun _=>rfl) (nle rfl)).trans rfl) ?_
    simp only [hg133,qr (g:=75),zz,f126,zr,ql,kp,z9,jb,d8,d9,e8,zd,zt,B0,
      reduceIte,a9]
    refine qu (v := .int .i64 x7.Told) ((a1u (o:=5) hv58 rfl hx8 (n7 hS123) (nle rfl)).trans rfl) ?_
    simp only [hg133,qr (g:=75),zz,k5,ql,kq,jh,zn,za,qp,B0,reduceIte,a9]
    have e143:=qj hF140
    exact hN132 _ _ ⟨(s9 (s9 (s9 (s9 (s9 (l6 (s9 hS123))))))),by rw [←e143]; simp only [B0,reduceIte,a9],f124,f125,f126,f127,
      f129⟩
  rintro fr144 h151 ⟨hS152,f145,f146,f147,f148,f149,f150⟩
  simp only [i0,i6]
  simp only [f145,zr,ql,B0,reduceIte,a9]
  obtain ⟨v156,hx157,hF158⟩:=qk hF136
  refine we 11 (fun fr' h'=>Sep h' lo ([Blk1 pb0 [.int .i64 v_0.Truth.Epoch,.int .i64 v_0.Truth.Leader,pv0_2,pv0_3,
    pv0_4] 28]++(c55++(pc0_2++(pc0_4++(c63++(c67++(c71++(S0))))))))∧fr' 101 = .bool v156∧fr' 0 = .ptr pb0 0∧fr' 3 = .ref [.int .i64 v_1.Kind,
    .int .i64 v_1.K,.int .i64 v_1.To,.int .i64 v_1.N] 0∧fr' 5 = .ptr b10 (v_1.K.toNat*6)∧fr' 6 = .int .i64 v12.1) rfl (fun Q153 hN154=>?_) ?_
  ·simp only [f4,i7]
   simp only [qr (g:=90),B0,reduceIte,a9]
   refine jm (t:=v134) (fun hg155=>?_) (fun hg155=>?_)
   ·rw [iteT hg155] at hx157
    simp only [hg155,qr (g:=90),wo,jh,ql,zo,za,qp,B0,reduceIte,a9]
    have e159:=qj hx157
    exact hN154 _ _ ⟨(s9 (s9 (s9 (s9 (s9 (s9 (s9 hS152))))))),by rw [←e159]; simp only [B0,reduceIte,a9],f146,f147,f148,f149⟩
   ·rw [iteF hg155] at hx157
    simp only [hg155,qr (g:=90),zz,f148,zr,ql,kp,z9,jb,d8,d9,e8,zd,zt,B0,
      reduceIte,a9]
    refine qu (v:=v70) ((a1u (o:=4) hv58 rfl hx8 (n7 hS152) (nle rfl)).trans rfl) ?_
    simp only [hg155,qr (g:=90),zz,f147,jb,ql,d8,d9,e8,qs,zt,B0,reduceIte,a9]
    refine qu (v := .int .i64 v_1.To) rfl ?_
    obtain ⟨x160,hx161,hF162⟩:=qk hx157
    simp only [hg155,qr (g:=90),zz,yz,B0,reduceIte,a9]
    obtain ⟨b163,hb164⟩:=a04 hv72 (j9 hx161)
    refine qu (a16 hv72 hb164 hx161) ?_
    simp only [hg155,qr (g:=90),zz,zt,B0,reduceIte,a9]
    refine qu (v := .int .i64 x160) ((SlF.ld (o:=0) hv72 (s9 hS152) hb164 hx161 (fun _=>rfl) (nle rfl)).trans rfl) ?_
    simp only [hg155,qr (g:=90),zz,f150,zr,ql,k5,kq,jh,zn,za,qp,B0,reduceIte,a9]
    have e165:=qj hF162
    exact hN154 _ _ ⟨(s9 (s9 (s9 (s9 (s9 (s9 (s9 hS152))))))),by rw [←e165]; simp only [B0,reduceIte,a9],f146,f147,f148,f149⟩
  rintro fr166 h172 ⟨hS173,f167,f168,f169,f170,f171⟩
  simp only [i0,i6]
  simp only [za,f167,q9,B0,reduceIte,a9]
  refine qy (t:=v156) (fun hc174=>?_) (fun hc174=>?_)
  ·rw [iteT hc174] at hF158
   simp only [qc,qd,qf,qa,qx,B0,reduceIte,a9]
   have e175:=qj hF158
   subst e175
   have hk25':=hk25
   dsimp only [jnO] at hk25'
   apply hR28
   obtain ⟨c176,hv177,hS178⟩:=a0z (c:=c55) (os:=c63++(c67++(c71))) hv58 rfl hx8 z8 (Node.RI (x:=x7) hv64 hv68 hv72) (a0q (c1:=c63) (c2:=c67)
     (c3:=c71) (n9 (s9 (s9 (s9 hS173)))))
   have hv179:=a0s hv177
   have he:=qj hk25'
   subst he
   simp only [q8,B0,reduceIte,a9]
   exact ⟨pv0_2,pc0_2,c176,pc0_4,by first | trivial | rfl,ph0_2,hv179,ph0_4,(l6 (l6 (n7 (l6 hS178))))⟩
  rw [iteF hc174] at hF158
  simp only [zh,qty,js,f168,qkq,ql,zr,kp,z9,jb,d8,d9,e8,zd,zt,B0,reduceIte,
    a9]
  refine qu (v:=pv0_2) ((jv (o9 _ _ _ hS173)).trans rfl) ?_
  simp only [f171,zr,ql,f169,jb,d8,d9,e8,qs,zt,B0,reduceIte,a9]
  refine qu (v := .int .i64 v_1.To) rfl ?_
  simp only [qfq,evp,B0,reduceIte,a9]
  refine qdo (n:=1) (f:=cI) [v_1.To] hS173 rfl rfl (fun v181 c182 h183 hv184 hS185 hq180=>?_)
  obtain ⟨v187,hx188,hF189⟩:=qk hF158
  simp only [ki,B0,reduceIte,a9]
  refine quc rfl (qjq hW pv0_2 pc0_2 v_0.Truth.InStep ph0_2 v12.1 v181 c182 [v_1.To] hv184 v187 hx188 (l6 hS185)) ?_
  rintro v190 h196 ⟨_,c191,c194,rfl,hv192,hv195,hS197⟩
  simp only [kp,ql,z9,jb,d8,d9,e8,zd,qcu,B0,reduceIte,a9]
  refine qbb (us:=[v190]) (kg (l7 hv192)) (cs':=[.int .i64 v_0.Truth.Epoch,.int .i64 v_0.Truth.Leader,v190,pv0_3,
    pv0_4]) (l9 hS197) hW rfl (qm (l7 hv192) zq) (nle rfl) rfl (fun h198 hS199=>?_)
  simp only [za,qp,B0,reduceIte,a9]
  obtain ⟨c200,hv201,hS202⟩:=a0z (c:=c55) (os:=c63++(c67++(c71))) hv58 rfl hx8 z8 (Node.RI (x:=x7) hv64 hv68 hv72) (a0q (c1:=c63) (c2:=c67)
    (c3:=c71) (s9 (o7 (o7 (o7 hS199)))))
  have hv203:=a0s hv201
  have e204:=qj hF189
  exact hN27 _ _ ⟨_,e204.symm,v190,c191,c200,f168,f170,hv192,hv203,(l6 (l9 (l6 (l6 (o8 (l6 hS202))))))⟩
 rintro fr206 h207 ⟨⟨s15,s20⟩,rfl,v17,c18,c21,f209,f210,hv19,hv22,hS208⟩
 dsimp only [jnO] at hk25
 dsimp only at *
 unfold uo at hk25
 simp only [qq2,qc,qd,f210,qf,ws,evp,B0,reduceIte,a9]
 refine yp (n:=1) (f:=cI) ([] : List Int) hS208 rfl rfl (fun v211 c212 h213 hv214 hS215=>?_)
 simp only [f209,qf,yj,qb,z9,qt,d8,d9,e8,zd,qn,B0,reduceIte,a9]
 refine qh (v:=v17) ((jv (o9 _ _ _ (n7 hS215))).trans rfl) ?_
 simp only [um,B0,reduceIte,a9]
 obtain ⟨l217,hx218,hF219⟩:=qk hk25
 refine wm (f:=cI) hv214 hS215 hW (fun _=>rfl) (fun _=>rfl) (SlF.first hv19 (l6 hS215) (fun _=>rfl)) hx218 (fun v220 c221 h222 hv223 hS224=>?_)
 obtain ⟨x228,hx229,hF230⟩:=qk hF219
 obtain ⟨c231,cs232,os233,hv234,hR235,hS236⟩:=a1t (a14 hv22 hb11 Node.RO.len) hx229 z8 Node.RO.len (l9 hS224)
 obtain ⟨v238,c239,v242,c243,v246,c247,hv240,hv244,hv248,rfl,rfl⟩:=hR235
 have hS237:=a1v hS236
 simp only [yj,qb,z9,qt,d8,d9,e8,zd,zp,B0,reduceIte,a9]
 refine wb (n:=6) (us:=[v220]) (cs:=[.int .i64 x228.View.Epoch,.int .i64 x228.View.Leader,v238,v242,v246,
   .int .i64 x228.Told]) (o:=2) (cs':=[.int .i64 x228.View.Epoch,.int .i64 x228.View.Leader,v220,v242,v246,
   .int .i64 x228.Told]) (kg (l7 hv223)) hv234 rfl hx229 hS237 hW rfl (qm (l7 hv223) zq) (nle rfl) rfl (fun c250 h226 hv251 hS227=>?_)
 simp only [qa,qc,qd,qf,qx,B0,reduceIte,a9]
 obtain ⟨c252,hv253,hS254⟩:=a2o (e':=(Node.mk (View.mk x228.View.Epoch x228.View.Leader l217) x228.Log x228.Known x228.Told)) (c:=c250) (os:=c221++(c243 ++
   (c247))) hv251 rfl hx229 z8 (Node.RI (x:=(Node.mk (View.mk x228.View.Epoch x228.View.Leader l217) x228.Log x228.Known x228.Told)) hv223 hv244 hv248) (a0q
   (c1:=c221) (c2:=c243) (c3:=c247) (l6 (n9 (l6 (l6 hS227)))))
 have hx255:=kj (x':=(Node.mk (View.mk x228.View.Epoch x228.View.Leader l217) x228.Log x228.Known x228.Told)) hx229
 have hv256:=a0s hv253
 have he:=qj hF230
 subst he
 simp only [q8,B0,reduceIte,a9]
 exact ⟨v17,c18,c252,pc0_4,by first | trivial | rfl,hv19,hv256,ph0_4,(l6 (l6 (n7 (l6 (o8 (n7 hS254))))))⟩
end Go.Proofs.Ytohofoampalhoaa.X
namespace Go.Proofs.Ytohofoampalhoaa.X
open Go
theorem qku {W:Nat→Bool}{h:Heap}{lo:Nat→Prop}{S0:List Obj} (hW:∀ b,
  lo b→W b=true) (k:Nat) (pb0:Nat) (v_0:Cluster) (pv0_2:XV) (pc0_2:List Obj) (ph0_2:SlF cI 1 3 pv0_2 v_0.Truth.InStep pc0_2) (pv0_3:XV) (pc0_3:List Obj)
  (ph0_3:SlN Node.R 6 68 pv0_3 v_0.Nodes pc0_3) (pv0_4:XV) (pc0_4:List Obj) (ph0_4:SlF qg 2 92 pv0_4 v_0.Acked pc0_4) (v_1:ClusterStep) (r:Bool × Cluster)
  (hF:qba k v_0 v_1=some r) (hS:Sep h lo ([Blk1 pb0 [.int .i64 v_0.Truth.Epoch,.int .i64 v_0.Truth.Leader,pv0_2,pv0_3,
  pv0_4] 28]++(pc0_2++(pc0_3++(pc0_4++(S0)))))) : Ret E W 91 [.ptr pb0 0,.agg [.int .i64 v_1.Kind,.int .i64 v_1.K,.int .i64 v_1.To,
  .int .i64 v_1.N]] h (fun v h'=>∃ iv0_2 ic0_2 ic0_3 iv0_4 ic0_4,
  v = .bool r.1∧SlF cI 1 3 iv0_2 r.2.Truth.InStep ic0_2∧SlN Node.R 6 68 pv0_3 r.2.Nodes ic0_3∧SlF qg 2 92 iv0_4 r.2.Acked ic0_4∧Sep h' lo
  ([Blk1 pb0 [.int .i64 r.2.Truth.Epoch,.int .i64 r.2.Truth.Leader,iv0_2,pv0_3,iv0_4] 28]++(ic0_2++(ic0_3++(ic0_4++(S0)))))):=by
 refine Ret.of (fn:=x91) rfl (Run.of ?_)
 unfold qba at hF
 have zf0:zb [.ptr pb0 0,.agg [.int .i64 v_1.Kind,.int .i64 v_1.K,.int .i64 v_1.To,.int .i64 v_1.N]] 0 = .ptr pb0 0:=rfl
 have zf1:zb [.ptr pb0 0,.agg [.int .i64 v_1.Kind,.int .i64 v_1.K,.int .i64 v_1.To,.int .i64 v_1.N]] 1 = .agg [.int .i64 v_1.Kind,.int .i64 v_1.K,.int .i64 v_1.To,
   .int .i64 v_1.N]:=rfl
 generalize zb [.ptr pb0 0,.agg [.int .i64 v_1.Kind,.int .i64 v_1.K,.int .i64 v_1.To,.int .i64 v_1.N]]=fr0 at zf0 zf1 ⊢
 simp only [x91,qc,qd,jp,zf1,B0,reduceIte,a9]
 refine je (cs:=[.int .i64 v_1.Kind,.int .i64 v_1.K,.int .i64 v_1.To,.int .i64 v_1.N]) hS rfl rfl rfl (fun b1 h2 hS3=>?_)
 simp only [qf,qa,B0,reduceIte,a9]
 refine zx hS3 hW (by simp only [B0,reduceIte,a9]) (fun h5 hS6=>?_)
 simp only [zw,qwm,qc,js,zf0,zr,ql,kp,z9,jb,d8,d9,e8,zd,zt,B0,reduceIte,
   a9]
 refine qu (v:=pv0_3) ((jv (o9 _ _ _ hS6)).trans rfl) ?_
 simp only [jb,ql,d8,d9,e8,qs,zt,B0,reduceIte,a9]
 refine qu (v := .int .i64 v_1.K) rfl ?_
 obtain ⟨x7,hx8,hF9⟩:=qk hF
 simp only [yz,B0,reduceIte,a9]
 obtain ⟨b10,hb11⟩:=SlN.isrow ph0_3 (j9 hx8)
 refine qu (SlN.ia ph0_3 hb11 hx8) ?_
 obtain ⟨c12,cs13,os14,hv15,hR16,hS17⟩:=a1t (a14 ph0_3 hb11 Node.RO.len) hx8 z8 Node.RO.len (l9 hS6)
 obtain ⟨v19,c20,v23,c24,v27,c28,hv21,hv25,hv29,rfl,rfl⟩:=hR16
 have hS18:=a1v hS17
 simp only [zr,ql,za,qur,qc,js,kp,z9,jb,d8,d9,e8,zd,zt,B0,reduceIte,
   a9]
 refine qu (v := .int .i64 x7.View.Leader) ((a1u (o:=1) hv15 rfl hx8 hS18 (nle rfl)).trans rfl) ?_
 simp only [jb,ql,d8,d9,e8,qs,zt,B0,reduceIte,a9]
 refine qu (v := .int .i64 v_1.K) rfl ?_
 simp only [k5,ql,k6,zr,za,qwu,qc,qd,qt,qb,d8,d9,e8,qs,qn,B0,reduceIte,
   a9]
 refine qh (v := .int .i64 v_1.Kind) rfl ?_
 simp only [qa,qub,kz,qu6,qc,qd,qz,qb,k6,qf,qw2,q9,B0,reduceIte,a9]
 refine qy (t:=(decide (v_1.Kind=1))) (fun hc31=>?_) (fun hc31=>?_)
 ·rw [iteT hc31] at hF9
  simp only [q2o,qc,js,zf0,zr,ql,kp,z9,jb,d8,d9,e8,zd,zt,B0,reduceIte,a9]
  refine qu (v:=pv0_2) ((jv (o9 _ _ _ (n9 hS18))).trans rfl) ?_
  simp only [jb,ql,d8,d9,e8,qs,zt,B0,reduceIte,a9]
  refine qu (v := .int .i64 v_1.K) rfl ?_
  obtain ⟨v32,hx33,hF34⟩:=qk hF9
  simp only [ki,B0,reduceIte,a9]
  refine uy rfl (qi (a0c ph0_2 (t9 hS18) rfl (fun _=>rfl) (fun _=>rfl)) (qi qo zc)) (qbv
    (fun b hb=>decide_eq_true hb) v_0.Truth.InStep v_1.K v32 hx33) ?_
  simp only [qcx,ql,ko,za,q9,B0,reduceIte,a9]
  refine qy (t:=(!v32)) (fun hc35=>?_) (fun hc35=>?_)
  ·rw [iteT hc35] at hF34
   simp only [qc,qd,qf,qa,qx,B0,reduceIte,a9]
   obtain ⟨c36,hv37,hS38⟩:=a0z (c:=c12) (os:=c20++(c24++(c28))) hv15 rfl hx8 z8 (Node.RI (x:=x7) hv21 hv25 hv29) (a0q (c1:=c20) (c2:=c24)
     (c3:=c28) (l6 (l6 (l6 (l6 hS18)))))
   have hv39:=a0s hv37
   have he:=qj hF34
   subst he
   simp only [q8,B0,reduceIte,a9]
   exact ⟨pv0_2,pc0_2,c36,pv0_4,pc0_4,by first | trivial | rfl,ph0_2,hv39,ph0_4,(l6 (l6 (n7 (l6 hS38))))⟩
  rw [iteF hc35] at hF34
  simp only [zh,qzr,qc,qd,zf0,qf,yj,qb,z9,qt,d8,d9,e8,zd,qn,B0,reduceIte,
    a9]
  refine qh (v := .int .i64 v_0.Truth.Epoch) ((jv (o9 _ _ _ (n9 hS18))).trans rfl) ?_
  simp only [qz,qb,wn,yj,z9,qt,d8,d9,e8,zd,zp,B0,reduceIte,a9]
  refine zm (us:=[.int .i64 (l4 .i64 (v_0.Truth.Epoch+1))]) rfl (cs':=[.int .i64 (l4 .i64 (v_0.Truth.Epoch+1)),.int .i64 v_0.Truth.Leader,
    pv0_2,pv0_3,pv0_4]) (n9 hS18) hW rfl rfl (nle rfl) rfl (fun h40 hS41=>?_)
  simp only [qa,q7y,qc,qd,zf0,qf,qt,qb,d8,d9,e8,qs,qn,B0,reduceIte,a9]
  refine qh (v := .int .i64 v_1.K) rfl ?_
  simp only [yj,qb,z9,qt,d8,d9,e8,zd,zp,B0,reduceIte,a9]
  refine zm (us:=[.int .i64 v_1.K]) rfl (cs':=[.int .i64 (l4 .i64 (v_0.Truth.Epoch+1)),.int .i64 v_1.K,pv0_2,pv0_3,
    pv0_4]) hS41 hW rfl rfl (nle rfl) rfl (fun h42 hS43=>?_)
  simp only [qa,qc,qd,qf,qx,B0,reduceIte,a9]
  obtain ⟨c44,hv45,hS46⟩:=a0z (c:=c12) (os:=c20++(c24++(c28))) hv15 rfl hx8 z8 (Node.RI (x:=x7) hv21 hv25 hv29) (a0q (c1:=c20) (c2:=c24)
    (c3:=c28) (n9 (n9 (n9 (n9 hS43)))))
  have hv47:=a0s hv45
  have he:=qj hF34
  subst he
  simp only [q8,B0,reduceIte,a9]
  exact ⟨pv0_2,pc0_2,c44,pv0_4,pc0_4,by first | trivial | rfl,ph0_2,hv47,ph0_4,(l6 (l6 (n7 (l6 hS46))))⟩
 rw [iteF hc31] at hF9
 simp only [qsp,qc,qd,qz,qb,k6,qf,qa,qvn,q9,B0,reduceIte,a9]
 refine qy (t:=(decide (v_1.Kind=2))) (fun hc48=>?_) (fun hc48=>?_)
 ·rw [iteT hc48] at hF9
  simp only [qvg,qc,js,zr,ql,kp,z9,jb,d8,d9,e8,zd,zt,B0,reduceIte,a9]
  refine qu (v := .agg [.int .i64 x7.View.Epoch,.int .i64 x7.View.Leader,v19]) ((SlG.lds (o:=0) hv15 rfl hx8 hS18 (nle rfl)).trans rfl) ?_
  simp only [zf0,zr,ql,kp,z9,jb,d8,d9,e8,zd,zt,B0,reduceIte,a9]
  refine qu (v := .agg [.int .i64 v_0.Truth.Epoch,.int .i64 v_0.Truth.Leader,pv0_2]) ((zu (o9 _ _ _ (n9 hS18))).trans rfl) ?_
  obtain ⟨v49,hx50,hF51⟩:=qk hF9
  simp only [ki,B0,reduceIte,a9]
  refine uy rfl (qi (zv (qi qo (qi qo (qi (a0c hv21 (n7 hS18) rfl (fun _=>rfl) (fun _=>rfl)) zc)))) (qi (zv
    (qi qo (qi qo (qi (a0c ph0_2 (t9 hS18) rfl (fun _=>rfl) (fun _=>rfl)) zc)))) zc)) (qlp
    (fun b hb=>decide_eq_true hb) x7.View v_0.Truth v49 hx50) ?_
  simp only [za,q9,B0,reduceIte,a9]
  refine qy (t:=v49) (fun hc52=>?_) (fun hc52=>?_)
  ·rw [iteT hc52] at hF51
   simp only [qc,qd,qf,qa,qx,B0,reduceIte,a9]
   obtain ⟨c53,hv54,hS55⟩:=a0z (c:=c12) (os:=c20++(c24++(c28))) hv15 rfl hx8 z8 (Node.RI (x:=x7) hv21 hv25 hv29) (a0q (c1:=c20) (c2:=c24)
     (c3:=c28) (l6 (l6 (l6 (l6 hS18)))))
   have hv56:=a0s hv54
   have he:=qj hF51
   subst he
   simp only [q8,B0,reduceIte,a9]
   exact ⟨pv0_2,pc0_2,c53,pv0_4,pc0_4,by first | trivial | rfl,ph0_2,hv56,ph0_4,(l6 (l6 (n7 (l6 hS55))))⟩
  rw [iteF hc52] at hF51
  simp only [zh,qst,qc,js,zr,ql,kp,z9,jb,d8,d9,e8,zd,zt,B0,reduceIte,
    a9]
  refine qu (v := .int .i64 x7.View.Epoch) ((a1u (o:=0) hv15 rfl hx8 hS18 (nle rfl)).trans rfl) ?_
  simp only [zf0,zr,ql,kp,z9,jb,d8,d9,e8,zd,zt,B0,reduceIte,a9]
  refine qu (v := .int .i64 v_0.Truth.Epoch) ((jv (o9 _ _ _ (n9 hS18))).trans rfl) ?_
  simp only [k5,ql,ya,za,q47,q9,B0,reduceIte,a9]
  obtain ⟨c57,hv58,hS59⟩:=a0z (c:=c12) (os:=c20++(c24++(c28))) hv15 rfl hx8 z8 (Node.RI (x:=x7) hv21 hv25 hv29) (a0q (c1:=c20) (c2:=c24)
    (c3:=c28) (l6 (l6 (l6 (l6 hS18)))))
  have hv60:=a0s hv58
  obtain ⟨s61,hX65,hk66⟩:=qk hF51
  refine qh5 (t:=(decide (x7.View.Epoch≠v_0.Truth.Epoch))) (fun fr' h'=>∃ c62,
    fr' 0 = .ptr pb0 0∧fr' 5 = .ptr b10 (v_1.K.toNat*6)∧SlN Node.R 6 68 pv0_3 s61 c62∧Sep h' lo ([Blk1 pb0 [.int .i64 v_0.Truth.Epoch,.int .i64 v_0.Truth.Leader,
    pv0_2,pv0_3,pv0_4] 28]++(c62++(pc0_2++(pc0_4++(S0)))))) (fun Q67 hN68 hR69 hE70=>⟨fun hc71=>?_,fun hc71=>?_⟩) ?_
  ·rw [iteT hc71] at hX65
   simp only [qzf,qc,qd,qf,zf0,yj,qb,z9,qt,d8,d9,e8,zd,qn,B0,reduceIte,
     a9]
   refine qh (v:=pv0_3) ((jv (o9 _ _ _ (n7 hS59))).trans rfl) ?_
   obtain ⟨l72,hx73,hF74⟩:=qk hX65
   simp only [zy,qb,SlN.len hv60,qid,B0,reduceIte,a9]
   refine qhe (f:=cI) (z:=(0:Int)) hS59 hx73 rfl (fun v75 c76 h77 hv78 hS79=>?_)
   obtain ⟨c83,cs84,os85,hv86,hR87,hS88⟩:=a1t (a14 hv60 hb11 Node.RO.len) hx8 z8 Node.RO.len (n7 hS79)
   obtain ⟨v90,c91,v94,c95,v98,c99,hv92,hv96,hv100,rfl,rfl⟩:=hR87
   have hS89:=a1v hS88
   simp only [yj,qb,z9,qt,d8,d9,e8,zd,zp,B0,reduceIte,a9]
   refine wb (n:=6) (us:=[v75]) (cs:=[.int .i64 x7.View.Epoch,.int .i64 x7.View.Leader,v90,v94,v98,
     .int .i64 x7.Told]) (o:=4) (cs':=[.int .i64 x7.View.Epoch,.int .i64 x7.View.Leader,v90,v94,v75,
     .int .i64 x7.Told]) (kg (l7 hv78)) hv86 rfl hx8 hS89 hW rfl (qm (l7 hv78) zq) (nle rfl) rfl (fun c102 h81 hv103 hS82=>?_)
   simp only [qa,q7h,qc,qd,qf,yj,qb,z9,qt,d8,d9,e8,zd,zp,B0,reduceIte,
     a9]
   refine wb (n:=6) (us:=[.int .i64 0]) (cs:=[.int .i64 x7.View.Epoch,.int .i64 x7.View.Leader,v90,v94,v75,
     .int .i64 x7.Told]) (o:=5) (cs':=[.int .i64 x7.View.Epoch,.int .i64 x7.View.Leader,v90,v94,v75,
     .int .i64 0]) rfl hv103 rfl hx8 hS82 hW rfl rfl (nle rfl) rfl (fun c106 h104 hv107 hS105=>?_)
   simp only [qa,q3w,qc,js,zf0,zr,ql,kp,z9,jb,d8,d9,e8,zd,zt,B0,reduceIte,
     a9]
   refine qu (v := .int .i64 v_0.Truth.Leader) ((jv (o9 _ _ _ (t9 hS105))).trans rfl) ?_
   simp only [jb,ql,d8,d9,e8,qs,zt,B0,reduceIte,a9]
   refine qu (v := .int .i64 v_1.K) rfl ?_
   simp only [k5,ql,k6,za,qze,q9,B0,reduceIte,a9]
   refine qy (t:=(decide (v_0.Truth.Leader=v_1.K))) (fun hc108=>?_) (fun hc108=>?_)
   ·rw [iteT hc108] at hF74
    simp only [qz5,js,zr,ql,kp,z9,jb,d8,d9,e8,zd,zt,B0,reduceIte,a9]
    refine qu (v:=v75) ((a1u (o:=4) hv107 rfl hx8 hS105 (nle rfl)).trans rfl) ?_
    simp only [jb,ql,d8,d9,e8,qs,zt,B0,reduceIte,a9]
    refine qu (v := .int .i64 v_1.K) rfl ?_
    simp only [zr,ql,kp,z9,jb,d8,d9,e8,zd,zt,B0,reduceIte,a9]
    refine qu (v:=v94) ((a1u (o:=3) hv107 rfl hx8 hS105 (nle rfl)).trans rfl) ?_
    obtain ⟨qm0,hx110,hF111⟩:=qk hF74
    simp only [qdy,ql,a1n hv96,yz,B0,reduceIte,a9]
    obtain ⟨b112,hb113⟩:=a04 hv78 (j9 hx110)
    refine qu (a16 hv78 hb113 hx110) ?_
    simp only [qcu,B0,reduceIte,a9]
    refine qjt (f:=cI) (x':=(f0 x7.Log:Int)) (o:=0) hv78 (n9 hS105) hW hb113 hx110 (fun _=>rfl) rfl rfl (nle rfl) rfl
      (fun c116 h114 hv117 hS115=>?_)
    have hx118:=kj (x':=(f0 x7.Log:Int)) hx110
    simp only [za,qp,B0,reduceIte,a9]
    obtain ⟨c119,hv120,hS121⟩:=a2o (e':=(Node.mk x7.View x7.Log (a0u l72 v_1.K.toNat (f0 x7.Log:Int)) 0)) (c:=c106) (os:=c91++(c95 ++
      (c116))) hv107 rfl hx8 z8 (Node.RI (x:=(Node.mk x7.View x7.Log (a0u l72 v_1.K.toNat (f0 x7.Log:Int)) 0)) hv92 hv96 hv117) (a0q (c1:=c91)
      (c2:=c95) (c3:=c116) (l6 (l6 (l6 hS115))))
    have hx122:=kj (x':=(Node.mk x7.View x7.Log (a0u l72 v_1.K.toNat (f0 x7.Log:Int)) 0)) hx8
    have hv123:=a0s hv120
    have e124:=qj hF111
    subst e124
    exact hN68 _ _ ⟨c119,zf0,rfl,hv123,(l6 (l9 (l6 (l6 (o8 (n7 hS121))))))⟩
   rw [iteF hc108] at hF74
   simp only [zh,qp,B0,reduceIte,a9]
   obtain ⟨c125,hv126,hS127⟩:=a2o (e':=(Node.mk x7.View x7.Log l72 0)) (c:=c106) (os:=c91++(c95++(c76))) hv107 rfl hx8 z8 (Node.RI (x :=
     (Node.mk x7.View x7.Log l72 0)) hv92 hv96 hv78) (a0q (c1:=c91) (c2:=c95) (c3:=c76) (l6 (l6 (l6 (n9 hS105)))))
   have hx128:=kj (x':=(Node.mk x7.View x7.Log l72 0)) hx8
   have hv129:=a0s hv126
   have e130:=qj hF74
   subst e130
   exact hN68 _ _ ⟨c125,zf0,rfl,hv129,(l6 (l9 (l6 (l6 (o8 (n7 hS127))))))⟩
  ·rw [iteF hc71] at hX65
   simp only [zh,qp,B0,reduceIte,a9]
   have e131:=qj hX65
   subst e131
   exact hN68 _ _ ⟨c57,zf0,rfl,hv60,(l6 (l9 (l6 (l6 hS59))))⟩
  rintro fr132 h133 ⟨c62,f135,f136,hv63,hS134⟩
  unfold ub at hk66
  simp only [qul,qc,qd,f136,qf,f135,yj,qb,z9,qt,d8,d9,e8,zd,qn,B0,reduceIte,
    a9]
  refine qh (v := .agg [.int .i64 v_0.Truth.Epoch,.int .i64 v_0.Truth.Leader,pv0_2]) ((zu (o9 _ _ _ hS134)).trans rfl) ?_
  obtain ⟨v137,hx138,hF139⟩:=qk hk66
  simp only [zg,B0,reduceIte,a9]
  refine qb1 rfl hS134 (qi (zv (qi qo (qi qo (qi (a0c ph0_2 (l9 hS134) rfl (fun _=>rfl) (fun _=>rfl)) zc)))) zc)
    (qen (fun b hb=>decide_eq_true hb) v_0.Truth v137 hx138) ?_
  rintro _ h144 ⟨v140,c141,rfl,hv142,hS145⟩
  refine ⟨_,uz (qm rfl (qm rfl (qm (a0n hv142) zq))),hS145,(jz (a1j hv142 (fun _=>rfl)) yu),fun h146 hS147=>?_⟩
  have hS148:Sep h146 lo (c141++([Blk1 pb0 [.int .i64 v_0.Truth.Epoch,.int .i64 v_0.Truth.Leader,pv0_2,pv0_3,
    pv0_4] 28]++(c62++(pc0_2++(pc0_4++(S0)))))):=by simpa only [l5,r7] using hS147
  obtain ⟨x151,hx152,hF153⟩:=qk hF139
  obtain ⟨c154,cs155,os156,hv157,hR158,hS159⟩:=a1t (a14 hv63 hb11 Node.RO.len) hx152 z8 Node.RO.len (l9 hS148)
  obtain ⟨v161,c162,v165,c166,v169,c170,hv163,hv167,hv171,rfl,rfl⟩:=hR158
  have hS160:=a1v hS159
  simp only [yj,qb,z9,qt,d8,d9,e8,zd,zp,B0,reduceIte,a9]
  refine wb (n:=6) (us:=[.int .i64 v137.Epoch,.int .i64 v137.Leader,v140]) (cs:=[.int .i64 x151.View.Epoch,.int .i64 x151.View.Leader,v161,v165,v169,
    .int .i64 x151.Told]) (o:=0) (cs':=[.int .i64 v137.Epoch,.int .i64 v137.Leader,v140,v165,v169,
    .int .i64 x151.Told]) rfl hv157 rfl hx152 hS160 hW rfl (qm rfl (qm rfl (qm (l7 hv142) zq))) (nle rfl) rfl (fun c173 h149 hv174 hS150=>?_)
  simp only [qa,qc,qd,qf,qx,B0,reduceIte,a9]
  obtain ⟨c175,hv176,hS177⟩:=a2o (e':=(Node.mk v137 x151.Log x151.Known x151.Told)) (c:=c173) (os:=c141++(c166++(c170))) hv174 rfl hx152 z8 (Node.RI (x :=
    (Node.mk v137 x151.Log x151.Known x151.Told)) hv142 hv167 hv171) (a0q (c1:=c141) (c2:=c166) (c3:=c170) (l6 (n9 (l6 (l6 hS150)))))
  have hx178:=kj (x':=(Node.mk v137 x151.Log x151.Known x151.Told)) hx152
  have hv179:=a0s hv176
  have he:=qj hF153
  subst he
  simp only [q8,B0,reduceIte,a9]
  exact ⟨pv0_2,pc0_2,c175,pv0_4,pc0_4,by first | trivial | rfl,ph0_2,hv179,ph0_4,(l6 (l6 (n7 (l6 (o8 (n7 hS177))))))⟩
 rw [iteF hc48] at hF9
 simp only [qt8,qc,qd,qz,qb,k6,qf,qa,qwj,q9,B0,reduceIte,a9]
 refine qy (t:=(decide (v_1.Kind=3))) (fun hc181=>?_) (fun hc181=>?_)
 ·rw [iteT hc181] at hF9
  simp only [qwd,qc,qd,qf,j8,qb,ko,B0,reduceIte,a9]
  refine ji 5 (fun fr' h'=>Sep h' lo (c12++([Blk1 pb0 [.int .i64 v_0.Truth.Epoch,.int .i64 v_0.Truth.Leader,pv0_2,pv0_3,
    pv0_4] 28]++(c20++(c24++(c28++(pc0_2++(pc0_4++(S0))))))))∧fr' 124 = .bool ((!(decide (x7.View.Leader=v_1.K))) ||
    (!(jc v_1.N 0 99)))∧fr' 3 = .ref [.int .i64 v_1.Kind,.int .i64 v_1.K,.int .i64 v_1.To,
    .int .i64 v_1.N] 0∧fr' 5 = .ptr b10 (v_1.K.toNat*6)) (fun Q182 hN183=>?_) ?_
  ·simp only [f4,i7]
   simp only [qe (g:=119),B0,reduceIte,a9]
   refine ze (t:=(!(decide (x7.View.Leader=v_1.K)))) (fun hg184=>?_) (fun hg184=>?_)
   ·simp only [hg184,qe (g:=119),jk,qw,qb,zo,qa,qp,B0,reduceIte,a9]
    exact hN183 _ _ ⟨(s9 (s9 (t9 (t9 (t9 (s9 (s9 hS18))))))),by rw [orT hg184]; simp only [B0,reduceIte,a9],rfl,rfl⟩
   ·simp only [hg184,qe (g:=119),qv,qt,qb,d8,d9,e8,qs,qn,B0,reduceIte,a9]
    refine qh (v := .int .i64 v_1.N) rfl ?_
    simp only [hg184,qe (g:=119),qv,zg,B0,reduceIte,a9]
    refine jo rfl (qi qo (qi qo (qi qo zc))) (uc (fun b hb=>decide_eq_true hb) v_1.N 0 99 _ rfl) ?_
    simp only [hg184,qe (g:=119),qv,j8,qb,ko,qw,zn,qa,qp,B0,reduceIte,a9]
    exact hN183 _ _ ⟨(s9 (s9 (t9 (t9 (t9 (s9 (s9 hS18))))))),by rw [orF hg184]; simp only [B0,reduceIte,a9],rfl,rfl⟩
  rintro fr185 h189 ⟨hS190,f186,f187,f188⟩
  simp only [i0,i6]
  simp only [f186,qf,B0,reduceIte,a9]
  refine ji 7 (fun fr' h'=>Sep h' lo (c12++([Blk1 pb0 [.int .i64 v_0.Truth.Epoch,.int .i64 v_0.Truth.Leader,pv0_2,pv0_3,
    pv0_4] 28]++(c20++(c24++(c28++(pc0_2++(pc0_4++(S0))))))))∧fr' 132 = .bool (((!(decide (x7.View.Leader=v_1.K)))||(!(jc v_1.N 0 99)))||(decide
    ((f0 x7.Log:Int)=30)))∧fr' 3 = .ref [.int .i64 v_1.Kind,.int .i64 v_1.K,.int .i64 v_1.To,
    .int .i64 v_1.N] 0∧fr' 5 = .ptr b10 (v_1.K.toNat*6)) (fun Q191 hN192=>?_) ?_
  ·simp only [f4,i7]
   simp only [qe (g:=125),B0,reduceIte,a9]
   refine ze (t:=((!(decide (x7.View.Leader=v_1.K)))||(!(jc v_1.N 0 99)))) (fun hg193=>?_) (fun hg193=>?_)
   ·simp only [hg193,qe (g:=125),jk,qw,qb,zo,qa,qp,B0,reduceIte,a9]
    exact hN192 _ _ ⟨(s9 (s9 (s9 (s9 (s9 (s9 (s9 hS190))))))),by rw [orT hg193]; simp only [B0,reduceIte,a9],f187,f188⟩
   ·simp only [hg193,qe (g:=125),qv,f188,qf,yj,qb,z9,qt,d8,d9,e8,zd,qn,B0,
     reduceIte,a9]
    refine qh (v:=v23) ((a1u (o:=3) hv15 rfl hx8 hS190 (nle rfl)).trans rfl) ?_
    simp only [hg193,qe (g:=125),qv,zy,qb,a1n hv25,qz,k6,qw,zn,qa,qp,B0,reduceIte,a9]
    exact hN192 _ _ ⟨(s9 (s9 (s9 (s9 (s9 (s9 (s9 hS190))))))),by rw [orF hg193]; simp only [B0,reduceIte,a9],f187,f188⟩
  rintro fr194 h198 ⟨hS199,f195,f196,f197⟩
  simp only [i0,i6]
  simp only [qa,f195,q9,B0,reduceIte,a9]
  refine qy (t:=(((!(decide (x7.View.Leader=v_1.K)))||(!(jc v_1.N 0 99)))||(decide ((f0 x7.Log:Int)=30)))) (fun hc200=>?_) (fun hc200=>?_)
  ·rw [iteT hc200] at hF9
   simp only [qc,qd,qf,qa,qx,B0,reduceIte,a9]
   obtain ⟨c201,hv202,hS203⟩:=a0z (c:=c12) (os:=c20++(c24++(c28))) hv15 rfl hx8 z8 (Node.RI (x:=x7) hv21 hv25 hv29) (a0q (c1:=c20) (c2:=c24)
     (c3:=c28) (l6 (n9 (n9 (n9 hS199)))))
   have hv204:=a0s hv202
   have he:=qj hF9
   subst he
   simp only [q8,B0,reduceIte,a9]
   exact ⟨pv0_2,pc0_2,c201,pv0_4,pc0_4,by first | trivial | rfl,ph0_2,hv204,ph0_4,(l6 (l6 (n7 (l6 hS203))))⟩
  rw [iteF hc200] at hF9
  simp only [zh,quw,qc,js,f197,qkq,ql,zr,kp,z9,jb,d8,d9,e8,zd,zt,B0,
    reduceIte,a9]
  refine qu (v:=v23) ((a1u (o:=3) hv15 rfl hx8 hS199 (nle rfl)).trans rfl) ?_
  simp only [f197,zr,ql,kp,z9,jb,d8,d9,e8,zd,zt,B0,reduceIte,a9]
  refine qu (v := .int .i64 x7.View.Epoch) ((a1u (o:=0) hv15 rfl hx8 hS199 (nle rfl)).trans rfl) ?_
  simp only [f196,jb,ql,d8,d9,e8,qs,zt,B0,reduceIte,a9]
  refine qu (v := .int .i64 v_1.N) rfl ?_
  simp only [qi4,evp,B0,reduceIte,a9]
  refine qu (v := .agg [.int .i64 x7.View.Epoch,.int .i64 v_1.N]) rfl ?_
  simp only [qfq,evp,B0,reduceIte,a9]
  refine qdo (n:=2) (f:=qg) [(Row.mk x7.View.Epoch v_1.N)] hS199 rfl rfl (fun v206 c207 h208 hv209 hS210 hq205=>?_)
  simp only [qh9,B0,reduceIte,a9]
  obtain ⟨l212,hx213,hF214⟩:=qk hF9
  refine qa6 (f:=qg) hv25 (n9 hS210) hW (fun _=>rfl) (fun _=>rfl) (SlF.first hv209 hS210 (fun _=>rfl)) hx213 (fun v215 c216 h217 hv218 hS219=>?_)
  simp only [kp,ql,z9,jb,d8,d9,e8,zd,qcu,B0,reduceIte,a9]
  refine qiu (n:=6) (us:=[v215]) (cs:=[.int .i64 x7.View.Epoch,.int .i64 x7.View.Leader,v19,v23,v27,
    .int .i64 x7.Told]) (o:=3) (cs':=[.int .i64 x7.View.Epoch,.int .i64 x7.View.Leader,v19,v215,v27,
    .int .i64 x7.Told]) (kg (l7 hv218)) hv15 rfl hx8 (l9 hS219) hW rfl (qm (l7 hv218) zq) (nle rfl) rfl (fun c223 h221 hv224 hS222=>?_)
  simp only [za,qtz,qc,js,f197,zr,ql,kp,z9,jb,d8,d9,e8,zd,zt,B0,reduceIte,
    a9]
  refine qu (v:=v27) ((a1u (o:=4) hv224 rfl hx8 hS222 (nle rfl)).trans rfl) ?_
  simp only [f196,jb,ql,d8,d9,e8,qs,zt,B0,reduceIte,a9]
  refine qu (v := .int .i64 v_1.K) rfl ?_
  simp only [f197,zr,ql,kp,z9,jb,d8,d9,e8,zd,zt,B0,reduceIte,a9]
  refine qu (v:=v215) ((a1u (o:=3) hv224 rfl hx8 hS222 (nle rfl)).trans rfl) ?_
  obtain ⟨x225,hx226,hF227⟩:=qk hF214
  simp only [qdy,ql,a1n hv218,yz,B0,reduceIte,a9]
  obtain ⟨b228,hb229⟩:=a04 hv29 (j9 hx226)
  refine qu (a16 hv29 hb229 hx226) ?_
  simp only [qcu,B0,reduceIte,a9]
  refine qjt (f:=cI) (x':=(f0 l212:Int)) (o:=0) hv29 (t9 hS222) hW hb229 hx226 (fun _=>rfl) rfl rfl (nle rfl) rfl (fun c232 h230 hv233 hS231=>?_)
  have hx234:=kj (x':=(f0 l212:Int)) hx226
  simp only [za,qc,qd,qf,qa,qx,B0,reduceIte,a9]
  obtain ⟨c235,hv236,hS237⟩:=a2o (e':=(Node.mk x7.View l212 (a0u x7.Known v_1.K.toNat (f0 l212:Int)) x7.Told)) (c:=c223) (os:=c20++(c216 ++
    (c232))) hv224 rfl hx8 z8 (Node.RI (x:=(Node.mk x7.View l212 (a0u x7.Known v_1.K.toNat (f0 l212:Int)) x7.Told)) hv21 hv218 hv233) (a0q
    (c1:=c20) (c2:=c216) (c3:=c232) (l6 (t9 (l9 hS231))))
  have hx238:=kj (x':=(Node.mk x7.View l212 (a0u x7.Known v_1.K.toNat (f0 l212:Int)) x7.Told)) hx8
  have hv239:=a0s hv236
  have he:=qj hF227
  subst he
  simp only [q8,B0,reduceIte,a9]
  exact ⟨pv0_2,pc0_2,c235,pv0_4,pc0_4,by first | trivial | rfl,ph0_2,hv239,ph0_4,(l6 (l6 (n7 (l6 (o8 (n7 hS237))))))⟩
 rw [iteF hc181] at hF9
 simp only [qw1,qc,qd,qz,qb,k6,qf,qa,qtk,q9,B0,reduceIte,a9]
 refine qy (t:=(decide (v_1.Kind=4))) (fun hc240=>?_) (fun hc240=>?_)
 ·rw [iteT hc240] at hF9
  simp only [qti,qc,qd,zf0,qf,qn,B0,reduceIte,a9]
  refine qh (v := .agg [.int .i64 v_1.Kind,.int .i64 v_1.K,.int .i64 v_1.To,.int .i64 v_1.N]) rfl ?_
  obtain ⟨c241,hv242,hS243⟩:=a0z (c:=c12) (os:=c20++(c24++(c28))) hv15 rfl hx8 z8 (Node.RI (x:=x7) hv21 hv25 hv29) (a0q (c1:=c20) (c2:=c24)
    (c3:=c28) (l6 (l6 (l6 (l6 hS18)))))
  have hv244:=a0s hv242
  obtain ⟨v245,hx246,hF247⟩:=qk hF9
  simp only [zg,B0,reduceIte,a9]
  refine y9 rfl (qit hW k pb0 v_0 pv0_2 pc0_2 ph0_2 pv0_3 c241 hv244 pv0_4 pc0_4 ph0_4 v_1 v245 hx246 (l6 (l6 (n7 (l6 hS243))))) ?_
  rintro _ h254 ⟨c248,c250,c252,rfl,hv249,hv251,hv253,hS255⟩
  simp only [qf,qa,qx,B0,reduceIte,a9]
  have he:=qj hF247
  subst he
  simp only [q8,B0,reduceIte,a9]
  exact ⟨pv0_2,c248,c250,pv0_4,c252,by first | trivial | rfl,hv249,hv251,hv253,(l6 (l6 (l6 (l6 hS255))))⟩
 rw [iteF hc240] at hF9
 simp only [qug,qc,qd,qz,qb,k6,qf,qa,qwg,q9,B0,reduceIte,a9]
 obtain ⟨c256,hv257,hS258⟩:=a0z (c:=c12) (os:=c20++(c24++(c28))) hv15 rfl hx8 z8 (Node.RI (x:=x7) hv21 hv25 hv29) (a0q (c1:=c20) (c2:=c24)
   (c3:=c28) (l6 (l6 (l6 (l6 hS18)))))
 have hv259:=a0s hv257
 obtain ⟨s260,hX262,hk263⟩:=qk hF9
 refine qh5 (t:=(decide (v_1.Kind=5))) (fun fr' h'=>fr' 0 = .ptr pb0 0∧fr' 3 = .ref [.int .i64 v_1.Kind,.int .i64 v_1.K,.int .i64 v_1.To,
   .int .i64 v_1.N] 0∧fr' 5 = .ptr b10 (v_1.K.toNat*6)∧fr' 6 = .bool (decide (x7.View.Leader=v_1.K))∧fr' 26 = .int .i64 v_1.Kind∧fr' 167 = .bool s260∧Sep h' lo
   ([Blk1 pb0 [.int .i64 v_0.Truth.Epoch,.int .i64 v_0.Truth.Leader,pv0_2,pv0_3,
   pv0_4] 28]++(c256++(pc0_2++(pc0_4++(S0)))))) (fun Q264 hN265 hR266 hE267=>⟨fun hc268=>?_,fun hc268=>?_⟩) ?_
 ·rw [iteT hc268] at hX262
  simp only [zh,qp,B0,reduceIte,a9]
  have e269:=qj hX262
  subst e269
  exact hN265 _ _ ⟨zf0,rfl,rfl,rfl,rfl,rfl,(l6 (l9 (l6 (l6 hS258))))⟩
 ·rw [iteF hc268] at hX262
  simp only [qd,qz,qb,k6,qf,qa,qp,B0,reduceIte,a9]
  have e270:=qj hX262
  subst e270
  exact hN265 _ _ ⟨zf0,rfl,rfl,rfl,rfl,rfl,(l6 (l9 (l6 (l6 hS258))))⟩
 rintro fr271 h272 ⟨f274,f275,f276,f277,f278,f279,hS273⟩
 unfold qa4 at hk263
 simp only [qt7,f279,q9,B0,reduceIte,a9]
 refine qy (t:=s260) (fun hc280=>?_) (fun hc280=>?_)
 ·rw [iteT hc280] at hk263
  simp only [qva,qc,js,f277,zr,ql,qcx,ko,B0,reduceIte,a9]
  refine we 12 (fun fr' h'=>Sep h' lo ([Blk1 pb0 [.int .i64 v_0.Truth.Epoch,.int .i64 v_0.Truth.Leader,pv0_2,pv0_3,
    pv0_4] 28]++(pc0_2++(c256++(pc0_4++(S0)))))∧fr' 184 = .bool ((!(decide (x7.View.Leader=v_1.K)))||(decide
    (x7.View.Epoch≠v_0.Truth.Epoch)))∧fr' 0 = .ptr pb0 0∧fr' 3 = .ref [.int .i64 v_1.Kind,.int .i64 v_1.K,.int .i64 v_1.To,
    .int .i64 v_1.N] 0) rfl (fun Q281 hN282=>?_) ?_
  ·simp only [f4,i7]
   simp only [qr (g:=172),B0,reduceIte,a9]
   refine jm (t:=(!(decide (x7.View.Leader=v_1.K)))) (fun hg283=>?_) (fun hg283=>?_)
   ·simp only [hg283,qr (g:=172),wo,jh,ql,zo,za,qp,B0,reduceIte,a9]
    exact hN282 _ _ ⟨(l6 (l6 (l9 (l6 hS273)))),by rw [orT hg283]; simp only [B0,reduceIte,a9],f274,f275⟩
   ·obtain ⟨c284,cs285,os286,hv287,hR288,hS289⟩:=a1t (a14 hv259 hb11 Node.RO.len) hx8 z8 Node.RO.len (n7 hS273)
    obtain ⟨v291,c292,v295,c296,v299,c300,hv293,hv297,hv301,rfl,rfl⟩:=hR288
    have hS290:=a1v hS289
    simp only [hg283,qr (g:=172),zz,f276,zr,ql,kp,z9,jb,d8,d9,e8,zd,zt,B0,
      reduceIte,a9]
    refine qu (v := .int .i64 x7.View.Epoch) ((a1u (o:=0) hv287 rfl hx8 hS290 (nle rfl)).trans rfl) ?_
    simp only [hg283,qr (g:=172),zz,f274,zr,ql,kp,z9,jb,d8,d9,e8,zd,zt,B0,
      reduceIte,a9]
    refine qu (v := .int .i64 v_0.Truth.Epoch) ((jv (o9 _ _ _ (n9 hS290))).trans rfl) ?_
    simp only [hg283,qr (g:=172),zz,k5,ql,ya,jh,zn,za,qp,B0,reduceIte,a9]
    exact hN282 _ _ ⟨(l6 (l6 (l9 (l6 hS273)))),by rw [orF hg283]; simp only [B0,reduceIte,a9],f274,f275⟩
  rintro fr303 h307 ⟨hS308,f304,f305,f306⟩
  simp only [i0,i6]
  simp only [za,f304,q9,B0,reduceIte,a9]
  refine qy (t:=((!(decide (x7.View.Leader=v_1.K)))||(decide (x7.View.Epoch≠v_0.Truth.Epoch)))) (fun hc309=>?_) (fun hc309=>?_)
  ·rw [iteT hc309] at hk263
   simp only [qc,qd,qf,qa,qx,B0,reduceIte,a9]
   have he:=qj hk263
   subst he
   simp only [q8,B0,reduceIte,a9]
   exact ⟨pv0_2,pc0_2,c256,pv0_4,pc0_4,by first | trivial | rfl,ph0_2,hv259,ph0_4,(l6 (l6 (l6 (l6 hS308))))⟩
  rw [iteF hc309] at hk263
  simp only [zh,qwq,qc,qd,f305,qf,f306,qn,B0,reduceIte,a9]
  refine qh (v := .agg [.int .i64 v_1.Kind,.int .i64 v_1.K,.int .i64 v_1.To,.int .i64 v_1.N]) rfl ?_
  obtain ⟨v310,hx311,hF312⟩:=qk hk263
  simp only [zg,B0,reduceIte,a9]
  refine y9 rfl (qi2 hW k pb0 v_0 pv0_2 pc0_2 ph0_2 pv0_3 c256 hv259 pv0_4 pc0_4 ph0_4 v_1 v310 hx311 (l6 (l6 (l6 (l6 hS308))))) ?_
  rintro _ h321 ⟨v313,c314,c317,c319,rfl,hv315,hv318,hv320,hS322⟩
  simp only [qf,qa,qx,B0,reduceIte,a9]
  have he:=qj hF312
  subst he
  simp only [q8,B0,reduceIte,a9]
  exact ⟨v313,c314,c317,pv0_4,c319,by first | trivial | rfl,hv315,hv318,hv320,(l6 (l6 (l6 (l6 hS322))))⟩
 rw [iteF hc280] at hk263
 simp only [qup,qc,qd,f278,qz,qb,k6,qf,qa,qt4,q9,B0,reduceIte,a9]
 refine qy (t:=(decide (v_1.Kind=7))) (fun hc323=>?_) (fun hc323=>?_)
 ·rw [iteT hc323] at hk263
  simp only [quq,qc,qd,f277,qf,j8,qb,ko,qa,q9,B0,reduceIte,a9]
  refine qy (t:=(!(decide (x7.View.Leader=v_1.K)))) (fun hc324=>?_) (fun hc324=>?_)
  ·rw [iteT hc324] at hk263
   simp only [qc,qd,qf,qa,qx,B0,reduceIte,a9]
   have he:=qj hk263
   subst he
   simp only [q8,B0,reduceIte,a9]
   exact ⟨pv0_2,pc0_2,c256,pv0_4,pc0_4,by first | trivial | rfl,ph0_2,hv259,ph0_4,(l6 (l6 (l9 (l6 hS273))))⟩
  rw [iteF hc324] at hk263
  obtain ⟨c325,cs326,os327,hv328,hR329,hS330⟩:=a1t (a14 hv259 hb11 Node.RO.len) hx8 z8 Node.RO.len (n7 hS273)
  obtain ⟨v332,c333,v336,c337,v340,c341,hv334,hv338,hv342,rfl,rfl⟩:=hR329
  have hS331:=a1v hS330
  simp only [zh,qvh,qc,qd,qf,qa,qs5,f276,yj,qb,z9,qt,d8,d9,e8,zd,
    qn,B0,reduceIte,a9]
  refine qh (v:=v332) ((a1u (o:=2) hv328 rfl hx8 hS331 (nle rfl)).trans rfl) ?_
  simp only [zy,qb,a1n hv334,qf,qa,B0,reduceIte,a9]
  obtain ⟨oc348,hX350,hk351⟩:=ka hk263
  simp only [qs3]
  refine qgo (σ:=Int) (fun i346 s381=>ue x7 i346 s381) (fun s fr' h'=>fr' 0 = .ptr pb0 0∧fr' 5 = .ptr b10
    (v_1.K.toNat*6)∧fr' 7 = .int .i64 s∧fr' 196=v332∧Sep h' lo ([Blk1 pb0 [.int .i64 v_0.Truth.Epoch,.int .i64 v_0.Truth.Leader,pv0_2,pv0_3,
    pv0_4] 28]++(c325++(c333++(pc0_2++(pc0_4++(c337++(c341++(S0))))))))) hX350 ⟨f274,f276,rfl,rfl,
    (s9 (t9 (t9 (s9 (s9 (l6 (l6 hS331)))))))⟩ (by simp only [B0,reduceIte,a9]) (by simp only [B0,reduceIte,
    a9]) (fun _ _ _ h=>h) rfl rfl (fun _ _ _ _ h=>h) (fun _ _ _ _ h=>h) (fun _ _ _ _ h=>h) (by decide) ?_ ?_
  ·rintro i346 s345 fr360 h361 hx367 ⟨f363,f364,f365,f366,hS362⟩ f368 f369 oc349 hF352 hr353 Q354 hN355 hB359 hK356 hR357 hE358
   unfold ue at hF352
   obtain ⟨x370,hx371,hF372⟩:=qk hF352
   simp only [qvr,qc,qd,f366,f368,jl,B0,reduceIte,a9]
   obtain ⟨b373,hb374⟩:=a04 hv334 (j9 hx371)
   refine qh (a16 hv334 hb374 hx371) ?_
   simp only [qn,B0,reduceIte,a9]
   refine qh (v := .int .i64 x370) ((SlF.ld (o:=0) hv334 (l9 hS362) hb374 hx371 (fun _=>rfl) (nle rfl)).trans rfl) ?_
   simp only [qf,qa,qut,qd,f365,f364,yj,qb,z9,qt,d8,d9,e8,zd,qn,B0,reduceIte,
     a9]
   refine qh (v:=v340) ((a1u (o:=4) hv328 rfl hx8 (n7 hS362) (nle rfl)).trans rfl) ?_
   obtain ⟨x375,hx376,hF377⟩:=qk hF372
   simp only [qf,jl,B0,reduceIte,a9]
   obtain ⟨b378,hb379⟩:=a04 hv342 (j9 hx376)
   refine qh (a16 hv342 hb379 hx376) ?_
   simp only [qn,B0,reduceIte,a9]
   refine qh (v := .int .i64 x375) ((SlF.ld (o:=0) hv342 (s9 hS362) hb379 hx376 (fun _=>rfl) (nle rfl)).trans rfl) ?_
   simp only [q8s,qb,qrp,qf,qa,qp,B0,reduceIte,a9]
   have e380:=qj hF377
   exact hN355 _ _ _ e380.symm ⟨f363,f364,rfl,f366,(s9 (s9 (s9 (s9 (s9 (s9 (s9 hS362)))))))⟩ (f368) (f369)
  rintro s382 fr383 h384 rfl ⟨f386,f387,f388,f389,hS385⟩
  dsimp only [jnO] at hk351
  unfold qdd at hk351
  simp only [qsv,qc,qd,f388,qf,f387,yj,qb,z9,qt,d8,d9,e8,zd,qn,B0,reduceIte,
    a9]
  refine qh (v := .int .i64 x7.Told) ((a1u (o:=5) hv328 rfl hx8 (n7 hS385) (nle rfl)).trans rfl) ?_
  simp only [qz,qb,qm1,qa,q9,B0,reduceIte,a9]
  refine qy (t:=(decide (s382≤x7.Told))) (fun hc390=>?_) (fun hc390=>?_)
  ·rw [iteT hc390] at hk351
   simp only [qc,qd,qf,qa,qx,B0,reduceIte,a9]
   obtain ⟨c391,hv392,hS393⟩:=a0z (c:=c325) (os:=c333++(c337++(c341))) hv328 rfl hx8 z8 (Node.RI (x:=x7) hv334 hv338 hv342) (a0q (c1:=c333)
     (c2:=c337) (c3:=c341) (n9 (n9 (s9 (s9 hS385)))))
   have hv394:=a0s hv392
   have he:=qj hk351
   subst he
   simp only [q8,B0,reduceIte,a9]
   exact ⟨pv0_2,pc0_2,c391,pv0_4,pc0_4,by first | trivial | rfl,ph0_2,hv394,ph0_4,(l6 (l6 (n7 (l6 hS393))))⟩
  rw [iteF hc390] at hk351
  simp only [zh,qu5,qc,qd,f387,qf,f388,yj,qb,z9,qt,d8,d9,e8,zd,zp,B0,
    reduceIte,a9]
  refine wb (n:=6) (us:=[.int .i64 s382]) (cs:=[.int .i64 x7.View.Epoch,.int .i64 x7.View.Leader,v332,v336,v340,
    .int .i64 x7.Told]) (o:=5) (cs':=[.int .i64 x7.View.Epoch,.int .i64 x7.View.Leader,v332,v336,v340,
    .int .i64 s382]) rfl hv328 rfl hx8 (n7 hS385) hW rfl rfl (nle rfl) rfl (fun c397 h395 hv398 hS396=>?_)
  simp only [qa,qvp,qc,qd,f388,qf,f386,yj,qb,z9,qt,d8,d9,e8,zd,qn,B0,
    reduceIte,a9]
  refine qh (v:=pv0_4) ((jv (o9 _ _ _ (n7 hS396))).trans rfl) ?_
  simp only [zy,qb,a1n ph0_4,qz,qf6,qa,qvm,q9,B0,reduceIte,a9]
  refine qy (t:=(decide ((f0 v_0.Acked:Int)<s382))) (fun hc399=>?_) (fun hc399=>?_)
  ·rw [iteT hc399] at hk351
   simp only [qtv,qd,f386,qf,ws,evp,B0,reduceIte,a9]
   refine yp (n:=2) (f:=qg) ([] : List Row) hS396 rfl rfl (fun v400 c401 h402 hv403 hS404=>?_)
   simp only [f387,qf,yj,qb,z9,qt,d8,d9,e8,zd,qn,B0,reduceIte,a9]
   refine qh (v:=v336) ((a1u (o:=3) hv398 rfl hx8 (n7 hS404) (nle rfl)).trans rfl) ?_
   obtain ⟨l406,hx407,hF408⟩:=qk hk351
   simp only [f388,qf,qej,Option.map_some,Option.map_none,B0,reduceIte,a9]
   obtain ⟨w409,i410,he411,hw412⟩:=SlF.win (f:=qg) (ty:=92) none (some s382) hv338 hx407 (s9 hS404)
   refine qh he411 ?_
   simp only [um,B0,reduceIte,a9]
   obtain ⟨l413,hx414,hF415⟩:=qk hF408
   refine wm (f:=qg) hv403 hS404 hW (fun _=>rfl) (fun _=>rfl) (SlW.first hw412 hv338 (s9 hS404) (fun _=>rfl)) hx414
     (fun v416 c417 h418 hv419 hS420=>?_)
   simp only [yj,qb,z9,qt,d8,d9,e8,zd,zp,B0,reduceIte,a9]
   refine zm (us:=[v416]) (kg (l7 hv419)) (cs':=[.int .i64 v_0.Truth.Epoch,.int .i64 v_0.Truth.Leader,pv0_2,pv0_3,
     v416]) (l9 hS420) hW rfl (qm (l7 hv419) zq) (nle rfl) rfl (fun h422 hS423=>?_)
   simp only [qa,qc,qd,qf,qx,B0,reduceIte,a9]
   obtain ⟨c424,hv425,hS426⟩:=a2o (e':=(Node.mk x7.View x7.Log x7.Known s382)) (c:=c397) (os:=c333++(c337++(c341))) hv398 rfl hx8 z8 (Node.RI (x :=
     (Node.mk x7.View x7.Log x7.Known s382)) hv334 hv338 hv342) (a0q (c1:=c333) (c2:=c337) (c3:=c341) (t9 (t9 (o7 (o7 hS423)))))
   have hx427:=kj (x':=(Node.mk x7.View x7.Log x7.Known s382)) hx8
   have hv428:=a0s hv425
   have he:=qj hF415
   subst he
   simp only [q8,B0,reduceIte,a9]
   exact ⟨pv0_2,pc0_2,c424,v416,c417,by first | trivial | rfl,ph0_2,hv428,hv419,(l6 (l6 (n7 (l9 (o8 (n9 hS426))))))⟩
  rw [iteF hc399] at hk351
  simp only [zh,qc,qd,qf,qa,qx,B0,reduceIte,a9]
  obtain ⟨c429,hv430,hS431⟩:=a2o (e':=(Node.mk x7.View x7.Log x7.Known s382)) (c:=c397) (os:=c333++(c337++(c341))) hv398 rfl hx8 z8 (Node.RI (x :=
    (Node.mk x7.View x7.Log x7.Known s382)) hv334 hv338 hv342) (a0q (c1:=c333) (c2:=c337) (c3:=c341) (l6 (n9 (s9 (s9 hS396)))))
  have hx432:=kj (x':=(Node.mk x7.View x7.Log x7.Known s382)) hx8
  have hv433:=a0s hv430
  have he:=qj hk351
  subst he
  simp only [q8,B0,reduceIte,a9]
  exact ⟨pv0_2,pc0_2,c429,pv0_4,pc0_4,by first | trivial | rfl,ph0_2,hv433,ph0_4,(l6 (l6 (n7 (l6 hS431))))⟩
 rw [iteF hc323] at hk263
 simp only [zh,yl,qc,qd,qf,qa,qx,B0,reduceIte,a9]
 have he:=qj hk263
 subst he
 simp only [q8,B0,reduceIte,a9]
 exact ⟨pv0_2,pc0_2,c256,pv0_4,pc0_4,by first | trivial | rfl,ph0_2,hv259,ph0_4,(l6 (l6 (l9 (l6 hS273))))⟩
end Go.Proofs.Ytohofoampalhoaa.X
namespace Go.Proofs.Ytohofoampalhoaa.X
open Go
theorem qjp {W:Nat→Bool}{h:Heap} (hW:∀ b,
  (geL h.length) b→W b=true) (k:Nat) (v_0:Cluster) (v_1:ClusterStep) (r:Cluster × Bool)
  (hF:xe k v_0 v_1=some r) : Ret E W 65 [.agg [.int .i64 v_0.Truth.Epoch,.int .i64 v_0.Truth.Leader,lst cI v_0.Truth.InStep,lst qq v_0.Nodes,
  lst qg v_0.Acked],.agg [.int .i64 v_1.Kind,.int .i64 v_1.K,.int .i64 v_1.To,.int .i64 v_1.N]] h (fun v h'=>∃ rv0_2 rc0_2 rv0_3 rc0_3 rv0_4 rc0_4,
  v = .tup [.agg [.int .i64 r.1.Truth.Epoch,.int .i64 r.1.Truth.Leader,rv0_2,rv0_3,rv0_4],
  .bool r.2]∧SlF cI 1 3 rv0_2 r.1.Truth.InStep rc0_2∧SlN Node.R 6 68 rv0_3 r.1.Nodes rc0_3∧SlF qg 2 92 rv0_4 r.1.Acked rc0_4∧Sep h' (geL h.length) (rc0_2 ++
  (rc0_3++(rc0_4++([]))))):=by
 refine Ret.of (fn:=x65) rfl (Run.of ?_)
 unfold xe at hF
 have zf0:zb [.agg [.int .i64 v_0.Truth.Epoch,.int .i64 v_0.Truth.Leader,lst cI v_0.Truth.InStep,lst qq v_0.Nodes,lst qg v_0.Acked],
   .agg [.int .i64 v_1.Kind,.int .i64 v_1.K,.int .i64 v_1.To,.int .i64 v_1.N]] 0 = .agg [.int .i64 v_0.Truth.Epoch,.int .i64 v_0.Truth.Leader,lst cI v_0.Truth.InStep,
   lst qq v_0.Nodes,lst qg v_0.Acked]:=rfl
 have zf1:zb [.agg [.int .i64 v_0.Truth.Epoch,.int .i64 v_0.Truth.Leader,lst cI v_0.Truth.InStep,lst qq v_0.Nodes,lst qg v_0.Acked],
   .agg [.int .i64 v_1.Kind,.int .i64 v_1.K,.int .i64 v_1.To,.int .i64 v_1.N]] 1 = .agg [.int .i64 v_1.Kind,.int .i64 v_1.K,.int .i64 v_1.To,.int .i64 v_1.N]:=rfl
 generalize zb [.agg [.int .i64 v_0.Truth.Epoch,.int .i64 v_0.Truth.Leader,lst cI v_0.Truth.InStep,lst qq v_0.Nodes,lst qg v_0.Acked],
   .agg [.int .i64 v_1.Kind,.int .i64 v_1.K,.int .i64 v_1.To,.int .i64 v_1.N]]=fr0 at zf0 zf1 ⊢
 have hS:Sep h (geL h.length) []:=Sep.nil h
 simp only [x65,qc,qd,jp,zf0,B0,reduceIte,a9]
 refine je (cs:=[.int .i64 v_0.Truth.Epoch,.int .i64 v_0.Truth.Leader,lst cI v_0.Truth.InStep,lst qq v_0.Nodes,
   lst qg v_0.Acked]) hS rfl rfl rfl (fun b1 h2 hS3=>?_)
 simp only [jp,zf1,B0,reduceIte,a9]
 refine je (cs:=[.int .i64 v_1.Kind,.int .i64 v_1.K,.int .i64 v_1.To,.int .i64 v_1.N]) hS3 rfl rfl rfl (fun b5 h6 hS7=>?_)
 simp only [kd,B0,reduceIte,a9]
 refine jt hS7 (fun b9 h10 hS11=>?_)
 simp only [qf,qa,B0,reduceIte,a9]
 refine zx (l9 hS11) hW (by simp only [B0,reduceIte,a9]) (fun h13 hS14=>?_)
 refine zx (n7 hS14) hW (by simp only [B0,reduceIte,a9]) (fun h15 hS16=>?_)
 simp only [zw,q6w,qc,qd,qt,qb,d8,d9,e8,qs,qn,B0,reduceIte,a9]
 refine qh (v:=lst qq v_0.Nodes) rfl ?_
 simp only [zy,qb,jd,qf,qa,q3s,qc,qd,qt,d8,d9,e8,qs,qn,B0,reduceIte,
   a9]
 refine qh (v := .int .i64 v_1.Kind) rfl ?_
 simp only [qz,qb,k6,qf,B0,reduceIte,a9]
 refine ji 4 (fun fr' h'=>Sep h' (geL h.length) ([Blk1 b9 [.int .i64 0,.int .i64 0,.nil,.nil,
   .nil] 28]++([]))∧fr' 19 = .bool ((decide (v_1.Kind=4))||(decide (v_1.Kind=5)))∧fr' 2 = .ref [.int .i64 v_0.Truth.Epoch,.int .i64 v_0.Truth.Leader,
   lst cI v_0.Truth.InStep,lst qq v_0.Nodes,lst qg v_0.Acked] 0∧fr' 3 = .ref [.int .i64 v_1.Kind,.int .i64 v_1.K,.int .i64 v_1.To,
   .int .i64 v_1.N] 0∧fr' 4 = .ptr b9 0∧fr' 6 = .int .i64 (f0 v_0.Nodes:Int)) (fun Q17 hN18=>?_) ?_
 ·simp only [f4,i7]
  simp only [qe (g:=15),B0,reduceIte,a9]
  refine ze (t:=(decide (v_1.Kind=4))) (fun hg19=>?_) (fun hg19=>?_)
  ·simp only [hg19,qe (g:=15),jk,qw,qb,zo,qa,qp,B0,reduceIte,a9]
   exact hN18 _ _ ⟨hS16,by rw [orT hg19]; simp only [B0,reduceIte,a9],rfl,rfl,rfl,rfl⟩
  ·simp only [hg19,qe (g:=15),qv,qt,qb,d8,d9,e8,qs,qn,B0,reduceIte,a9]
   refine qh (v := .int .i64 v_1.Kind) rfl ?_
   simp only [hg19,qe (g:=15),qv,qz,qb,k6,qw,zn,qa,qp,B0,reduceIte,a9]
   exact hN18 _ _ ⟨hS16,by rw [orF hg19]; simp only [B0,reduceIte,a9],rfl,rfl,rfl,rfl⟩
 rintro fr20 h26 ⟨hS27,f21,f22,f23,f24,f25⟩
 simp only [i0,i6]
 simp only [f21,qf,B0,reduceIte,a9]
 refine ji 4 (fun fr' h'=>Sep h' (geL h.length) ([Blk1 b9 [.int .i64 0,.int .i64 0,.nil,.nil,
   .nil] 28]++([]))∧fr' 24 = .bool (((decide (v_1.Kind=4))||(decide (v_1.Kind=5)))||(decide (v_1.Kind=6)))∧fr' 2 = .ref [.int .i64 v_0.Truth.Epoch,
   .int .i64 v_0.Truth.Leader,lst cI v_0.Truth.InStep,lst qq v_0.Nodes,lst qg v_0.Acked] 0∧fr' 3 = .ref [.int .i64 v_1.Kind,.int .i64 v_1.K,
   .int .i64 v_1.To,.int .i64 v_1.N] 0∧fr' 4 = .ptr b9 0∧fr' 6 = .int .i64 (f0 v_0.Nodes:Int)) (fun Q28 hN29=>?_) ?_
 ·simp only [f4,i7]
  simp only [qe (g:=20),B0,reduceIte,a9]
  refine ze (t:=((decide (v_1.Kind=4))||(decide (v_1.Kind=5)))) (fun hg30=>?_) (fun hg30=>?_)
  ·simp only [hg30,qe (g:=20),jk,qw,qb,zo,qa,qp,B0,reduceIte,a9]
   exact hN29 _ _ ⟨hS27,by rw [orT hg30]; simp only [B0,reduceIte,a9],f22,f23,f24,f25⟩
  ·simp only [hg30,qe (g:=20),qv,f23,qt,qb,d8,d9,e8,qs,qn,B0,reduceIte,a9]
   refine qh (v := .int .i64 v_1.Kind) rfl ?_
   simp only [hg30,qe (g:=20),qv,qz,qb,k6,qw,zn,qa,qp,B0,reduceIte,a9]
   exact hN29 _ _ ⟨hS27,by rw [orF hg30]; simp only [B0,reduceIte,a9],f22,f23,f24,f25⟩
 rintro fr31 h37 ⟨hS38,f32,f33,f34,f35,f36⟩
 simp only [i0,i6]
 simp only [f32,qf,qa,q3z,qc,qd,f34,qt,qb,d8,d9,e8,qs,qn,B0,reduceIte,a9]
 refine qh (v := .int .i64 v_1.K) rfl ?_
 simp only [f36,qf,qz,qb,qgz,zg,B0,reduceIte,a9]
 refine jo rfl (qi qo (qi qo (qi qo zc))) (uc (fun b hb=>decide_eq_true hb) v_1.K 0 (l4 .i64
   ((f0 v_0.Nodes:Int) - 1)) _ rfl) ?_
 simp only [j8,qb,ko,qf,B0,reduceIte,a9]
 refine ji 7 (fun fr' h'=>Sep h' (geL h.length) ([Blk1 b9 [.int .i64 0,.int .i64 0,.nil,.nil,
   .nil] 28]++([]))∧fr' 38 = .bool ((!(jc v_1.K 0 (l4 .i64 ((f0 v_0.Nodes:Int) - 1))))||(!(jc v_1.To 0 (l4 .i64
   ((f0 v_0.Nodes:Int) - 1)))))∧fr' 2 = .ref [.int .i64 v_0.Truth.Epoch,.int .i64 v_0.Truth.Leader,lst cI v_0.Truth.InStep,lst qq v_0.Nodes,
   lst qg v_0.Acked] 0∧fr' 3 = .ref [.int .i64 v_1.Kind,.int .i64 v_1.K,.int .i64 v_1.To,
   .int .i64 v_1.N] 0∧fr' 4 = .ptr b9 0∧fr' 7 = .bool (((decide (v_1.Kind=4))||(decide (v_1.Kind=5)))||(decide (v_1.Kind=6)))) (fun Q39 hN40=>?_) ?_
 ·simp only [f4,i7]
  simp only [qe (g:=31),B0,reduceIte,a9]
  refine ze (t:=(!(jc v_1.K 0 (l4 .i64 ((f0 v_0.Nodes:Int) - 1))))) (fun hg41=>?_) (fun hg41=>?_)
  ·simp only [hg41,qe (g:=31),jk,qw,qb,zo,qa,qp,B0,reduceIte,a9]
   exact hN40 _ _ ⟨hS38,by rw [orT hg41]; simp only [B0,reduceIte,a9],f33,f34,f35,rfl⟩
  ·simp only [hg41,qe (g:=31),qv,f34,qt,qb,d8,d9,e8,qs,qn,B0,reduceIte,a9]
   refine qh (v := .int .i64 v_1.To) rfl ?_
   simp only [hg41,qe (g:=31),qv,f36,qf,qz,qb,qgz,zg,B0,reduceIte,a9]
   refine jo rfl (qi qo (qi qo (qi qo zc))) (uc (fun b hb=>decide_eq_true hb) v_1.To 0 (l4 .i64
     ((f0 v_0.Nodes:Int) - 1)) _ rfl) ?_
   simp only [hg41,qe (g:=31),qv,j8,qb,ko,qw,zn,qa,qp,B0,reduceIte,a9]
   exact hN40 _ _ ⟨hS38,by rw [orF hg41]; simp only [B0,reduceIte,a9],f33,f34,f35,rfl⟩
 rintro fr42 h48 ⟨hS49,f43,f44,f45,f46,f47⟩
 simp only [i0,i6]
 simp only [f43,qf,B0,reduceIte,a9]
 refine ji 8 (fun fr' h'=>Sep h' (geL h.length) ([Blk1 b9 [.int .i64 0,.int .i64 0,.nil,.nil,
   .nil] 28]++([]))∧fr' 47 = .bool (((!(jc v_1.K 0 (l4 .i64 ((f0 v_0.Nodes:Int) - 1))))||(!(jc v_1.To 0 (l4 .i64
   ((f0 v_0.Nodes:Int) - 1)))))||((!(((decide (v_1.Kind=4))||(decide (v_1.Kind=5)))||(decide (v_1.Kind=6))))&&(decide
   (v_1.To≠0))))∧fr' 2 = .ref [.int .i64 v_0.Truth.Epoch,.int .i64 v_0.Truth.Leader,lst cI v_0.Truth.InStep,lst qq v_0.Nodes,
   lst qg v_0.Acked] 0∧fr' 3 = .ref [.int .i64 v_1.Kind,.int .i64 v_1.K,.int .i64 v_1.To,.int .i64 v_1.N] 0∧fr' 4 = .ptr b9 0) (fun Q50 hN51=>?_) ?_
 ·simp only [f4,i7]
  simp only [qe (g:=39),B0,reduceIte,a9]
  refine ze (t:=((!(jc v_1.K 0 (l4 .i64 ((f0 v_0.Nodes:Int) - 1))))||(!(jc v_1.To 0 (l4 .i64
    ((f0 v_0.Nodes:Int) - 1)))))) (fun hg52=>?_) (fun hg52=>?_)
  ·simp only [hg52,qe (g:=39),jk,qe (g:=42),xh,qw,qb,zo,qa,qp,B0,reduceIte,a9]
   exact hN51 _ _ ⟨hS49,by rw [orT hg52]; simp only [B0,reduceIte,a9],f44,f45,f46⟩
  ·simp only [hg52,qe (g:=39),qv,f47,qf,j8,qb,ko,B0,reduceIte,a9]
   refine ji 4 (fun fr' h'=>Sep h' (geL h.length) ([Blk1 b9 [.int .i64 0,.int .i64 0,.nil,.nil,
     .nil] 28]++([]))∧fr' 46 = .bool ((!(((decide (v_1.Kind=4))||(decide (v_1.Kind=5)))||(decide (v_1.Kind=6))))&&(decide
     (v_1.To≠0)))∧fr' 2 = .ref [.int .i64 v_0.Truth.Epoch,.int .i64 v_0.Truth.Leader,lst cI v_0.Truth.InStep,lst qq v_0.Nodes,
     lst qg v_0.Acked] 0∧fr' 3 = .ref [.int .i64 v_1.Kind,.int .i64 v_1.K,.int .i64 v_1.To,
     .int .i64 v_1.N] 0∧fr' 4 = .ptr b9 0∧fr' 39 = .bool ((!(jc v_1.K 0 (l4 .i64 ((f0 v_0.Nodes:Int) - 1))))||(!(jc v_1.To 0
     (l4 .i64 ((f0 v_0.Nodes:Int) - 1)))))) (fun Q53 hN54=>?_) ?_
   ·simp only [f4,i7]
    simp only [qe (g:=42),B0,reduceIte,a9]
    refine ze (t:=(!(((decide (v_1.Kind=4))||(decide (v_1.Kind=5)))||(decide (v_1.Kind=6))))) (fun hg55=>?_) (fun hg55=>?_)
    ·simp only [hg55,qe (g:=42),zi,f45,qt,qb,d8,d9,e8,qs,qn,B0,reduceIte,a9]
     refine qh (v := .int .i64 v_1.To) rfl ?_
     simp only [hg55,qe (g:=42),zi,qz,qb,ya,hg52,qe (g:=39),qv,qw,zo,qa,qp,B0,
       reduceIte,a9]
     exact hN54 _ _ ⟨hS49,by rw [yb hg55]; simp only [B0,reduceIte,a9],f44,f45,f46,by simp only [hg52,B0,reduceIte,a9]⟩
    ·simp only [hg55,qe (g:=42),jj,hg52,qe (g:=39),qv,qw,qb,zn,qa,qp,B0,reduceIte,a9]
     exact hN54 _ _ ⟨hS49,by rw [yd hg55]; simp only [B0,reduceIte,a9],f44,f45,f46,by simp only [hg52,B0,reduceIte,a9]⟩
   rintro fr56 h62 ⟨hS63,f57,f58,f59,f60,f61⟩
   simp only [i0,i6]
   simp only [f61,hg52,qw,qb,zn,f57,qa,qp,B0,reduceIte,a9]
   exact hN51 _ _ ⟨hS63,by rw [orF hg52]; simp only [B0,reduceIte,a9],f58,f59,f60⟩
 rintro fr64 h69 ⟨hS70,f65,f66,f67,f68⟩
 simp only [i0,i6]
 simp only [f65,qf,B0,reduceIte,a9]
 refine ji 14 (fun fr' h'=>Sep h' (geL h.length) ([Blk1 b9 [.int .i64 0,.int .i64 0,.nil,.nil,
   .nil] 28]++([]))∧fr' 62 = .bool ((((!(jc v_1.K 0 (l4 .i64 ((f0 v_0.Nodes:Int) - 1))))||(!(jc v_1.To 0 (l4 .i64
   ((f0 v_0.Nodes:Int) - 1)))))||((!(((decide (v_1.Kind=4))||(decide (v_1.Kind=5)))||(decide (v_1.Kind=6))))&&(decide (v_1.To≠0))))||(((decide
   (v_1.Kind≠3))&&(decide (v_1.Kind≠4)))&&(decide (v_1.N≠0))))∧fr' 2 = .ref [.int .i64 v_0.Truth.Epoch,.int .i64 v_0.Truth.Leader,lst cI v_0.Truth.InStep,
   lst qq v_0.Nodes,lst qg v_0.Acked] 0∧fr' 3 = .ref [.int .i64 v_1.Kind,.int .i64 v_1.K,.int .i64 v_1.To,
   .int .i64 v_1.N] 0∧fr' 4 = .ptr b9 0) (fun Q71 hN72=>?_) ?_
 ·simp only [f4,i7]
  simp only [qe (g:=48),B0,reduceIte,a9]
  refine ze (t:=(((!(jc v_1.K 0 (l4 .i64 ((f0 v_0.Nodes:Int) - 1))))||(!(jc v_1.To 0 (l4 .i64
    ((f0 v_0.Nodes:Int) - 1)))))||((!(((decide (v_1.Kind=4))||(decide (v_1.Kind=5)))||(decide (v_1.Kind=6))))&&(decide (v_1.To≠0)))))
    (fun hg73=>?_) (fun hg73=>?_)
  ·simp only [hg73,qe (g:=48),jk,qe (g:=52),xh,qe (g:=57),qw,qb,zo,qa,qp,B0,reduceIte,
    a9]
   exact hN72 _ _ ⟨hS70,by rw [orT hg73]; simp only [B0,reduceIte,a9],f66,f67,f68⟩
  ·simp only [hg73,qe (g:=48),qv,f67,qt,qb,d8,d9,e8,qs,qn,B0,reduceIte,a9]
   refine qh (v := .int .i64 v_1.Kind) rfl ?_
   simp only [hg73,qe (g:=48),qv,qz,qb,ya,qf,B0,reduceIte,a9]
   refine ji 4 (fun fr' h'=>Sep h' (geL h.length) ([Blk1 b9 [.int .i64 0,.int .i64 0,.nil,.nil,
     .nil] 28]++([]))∧fr' 56 = .bool ((decide (v_1.Kind≠3))&&(decide (v_1.Kind≠4)))∧fr' 2 = .ref [.int .i64 v_0.Truth.Epoch,.int .i64 v_0.Truth.Leader,
     lst cI v_0.Truth.InStep,lst qq v_0.Nodes,lst qg v_0.Acked] 0∧fr' 3 = .ref [.int .i64 v_1.Kind,.int .i64 v_1.K,.int .i64 v_1.To,
     .int .i64 v_1.N] 0∧fr' 4 = .ptr b9 0∧fr' 48 = .bool (((!(jc v_1.K 0 (l4 .i64 ((f0 v_0.Nodes:Int) - 1))))||(!(jc v_1.To 0
     (l4 .i64 ((f0 v_0.Nodes:Int) - 1)))))||((!(((decide (v_1.Kind=4))||(decide (v_1.Kind=5)))||(decide (v_1.Kind=6))))&&(decide
     (v_1.To≠0))))) (fun Q74 hN75=>?_) ?_
   ·simp only [f4,i7]
    simp only [qe (g:=52),B0,reduceIte,a9]
    refine ze (t:=(decide (v_1.Kind≠3))) (fun hg76=>?_) (fun hg76=>?_)
    ·simp only [hg76,qe (g:=52),zi,f67,qt,qb,d8,d9,e8,qs,qn,B0,reduceIte,a9]
     refine qh (v := .int .i64 v_1.Kind) rfl ?_
     simp only [hg76,qe (g:=52),zi,qz,qb,ya,hg73,qe (g:=48),qv,qw,zo,qa,qp,B0,
       reduceIte,a9]
     exact hN75 _ _ ⟨hS70,by rw [yb hg76]; simp only [B0,reduceIte,a9],f66,f67,f68,by simp only [hg73,B0,reduceIte,a9]⟩
    ·simp only [hg76,qe (g:=52),jj,hg73,qe (g:=48),qv,qw,qb,zn,qa,qp,B0,reduceIte,a9]
     exact hN75 _ _ ⟨hS70,by rw [yd hg76]; simp only [B0,reduceIte,a9],f66,f67,f68,by simp only [hg73,B0,reduceIte,a9]⟩
   rintro fr77 h83 ⟨hS84,f78,f79,f80,f81,f82⟩
   simp only [i0,i6]
   simp only [f82,hg73,qe (g:=48),qv,f78,qf,B0,reduceIte,a9]
   refine ji 4 (fun fr' h'=>Sep h' (geL h.length) ([Blk1 b9 [.int .i64 0,.int .i64 0,.nil,.nil,
     .nil] 28]++([]))∧fr' 61 = .bool (((decide (v_1.Kind≠3))&&(decide (v_1.Kind≠4)))&&(decide (v_1.N≠0)))∧fr' 2 = .ref [.int .i64 v_0.Truth.Epoch,
     .int .i64 v_0.Truth.Leader,lst cI v_0.Truth.InStep,lst qq v_0.Nodes,lst qg v_0.Acked] 0∧fr' 3 = .ref [.int .i64 v_1.Kind,.int .i64 v_1.K,
     .int .i64 v_1.To,.int .i64 v_1.N] 0∧fr' 4 = .ptr b9 0∧fr' 48 = .bool (((!(jc v_1.K 0 (l4 .i64 ((f0 v_0.Nodes:Int) - 1)))) ||
     (!(jc v_1.To 0 (l4 .i64 ((f0 v_0.Nodes:Int) - 1)))))||((!(((decide (v_1.Kind=4))||(decide (v_1.Kind=5)))||(decide
     (v_1.Kind=6))))&&(decide (v_1.To≠0))))) (fun Q85 hN86=>?_) ?_
   ·simp only [f4,i7]
    simp only [qe (g:=57),B0,reduceIte,a9]
    refine ze (t:=((decide (v_1.Kind≠3))&&(decide (v_1.Kind≠4)))) (fun hg87=>?_) (fun hg87=>?_)
    ·simp only [hg87,qe (g:=57),zi,f80,qt,qb,d8,d9,e8,qs,qn,B0,reduceIte,a9]
     refine qh (v := .int .i64 v_1.N) rfl ?_
     simp only [hg87,qe (g:=57),zi,qz,qb,ya,f82,hg73,qe (g:=48),qv,qw,zo,qa,qp,B0,
       reduceIte,a9]
     exact hN86 _ _ ⟨hS84,by rw [yb hg87]; simp only [B0,reduceIte,a9],f79,f80,f81,by simp only [f82,hg73,B0,reduceIte,a9]⟩
    ·simp only [hg87,qe (g:=57),jj,f82,hg73,qe (g:=48),qv,qw,qb,zn,qa,qp,B0,reduceIte,
      a9]
     exact hN86 _ _ ⟨hS84,by rw [yd hg87]; simp only [B0,reduceIte,a9],f79,f80,f81,by simp only [f82,hg73,B0,reduceIte,a9]⟩
   rintro fr88 h94 ⟨hS95,f89,f90,f91,f92,f93⟩
   simp only [i0,i6]
   simp only [f93,hg73,qw,qb,zn,f89,qa,qp,B0,reduceIte,a9]
   exact hN72 _ _ ⟨hS95,by rw [orF hg73]; simp only [B0,reduceIte,a9],f90,f91,f92⟩
 rintro fr96 h101 ⟨hS102,f97,f98,f99,f100⟩
 simp only [i0,i6]
 simp only [qa,q7x,f97,q9,B0,reduceIte,a9]
 refine qy (t:=((((!(jc v_1.K 0 (l4 .i64 ((f0 v_0.Nodes:Int) - 1))))||(!(jc v_1.To 0 (l4 .i64
   ((f0 v_0.Nodes:Int) - 1)))))||((!(((decide (v_1.Kind=4))||(decide (v_1.Kind=5)))||(decide (v_1.Kind=6))))&&(decide (v_1.To≠0))))||(((decide
   (v_1.Kind≠3))&&(decide (v_1.Kind≠4)))&&(decide (v_1.N≠0))))) (fun hc103=>?_) (fun hc103=>?_)
 ·rw [iteT hc103] at hF
  simp only [qc,qd,run_build,evp,B0,reduceIte,a9]
  refine qh (v := .agg [.int .i64 0,.int .i64 0,.nil,.nil,.nil]) rfl ?_
  simp only [f100,zp,B0,reduceIte,a9]
  refine zm (us:=[.int .i64 0,.int .i64 0,.nil,.nil,.nil]) rfl (cs':=[.int .i64 0,.int .i64 0,.nil,.nil,
    .nil]) hS102 hW rfl rfl (nle rfl) rfl (fun h104 hS105=>?_)
  simp only [qf,qa,qx,B0,reduceIte,a9]
  have he:=qj hF
  subst he
  refine jy (qi (j7 (bb:=b9) (oo:=0) (v := .agg [.int .i64 0,.int .i64 0,.nil,.nil,
    .nil]) (f100) ((zu (o9 _ _ _ hS105)).trans rfl)) (qi (ye (v := .bool false) (rfl)) zc)) ?_
  exact ⟨.nil,[],.nil,[],.nil,[],by first | trivial | rfl,a2z,SlN.nil,a2z,((o8 (hS105)) : Sep _ (geL h.length) ([]))⟩
 rw [iteF hc103] at hF
 simp only [zh,q7e,qc,qd,f98,qn,B0,reduceIte,a9]
 refine qh (v := .agg [.int .i64 v_0.Truth.Epoch,.int .i64 v_0.Truth.Leader,lst cI v_0.Truth.InStep,lst qq v_0.Nodes,lst qg v_0.Acked]) rfl ?_
 obtain ⟨v106,hx107,hF108⟩:=qk hF
 simp only [zg,B0,reduceIte,a9]
 refine qb1 rfl hS102 (qi (zv (qi qo (qi qo (qi zk (qi zk (qi zk zc)))))) zc) (qkb
   (fun b hb=>decide_eq_true hb) v_0 v106 hx107) ?_
 rintro _ h121 ⟨v109,c110,v113,c114,v117,c118,rfl,hv111,hv115,hv119,hS122⟩
 refine ⟨_,uz (qm rfl (qm rfl (qm (a0n hv111) (qm (SlN.free1 hv115) (qm (a0n hv119) zq))))),hS122,
   (jz (a1j hv111 (fun _=>rfl)) (jz (SlN.pf hv115 Node.RO) (jz (a1j hv119 (fun _=>rfl)) yu))),fun h123 hS124=>?_⟩
 have hS125:Sep h123 (geL h.length) (c110++(c114++(c118++([Blk1 b9 [.int .i64 0,.int .i64 0,.nil,.nil,.nil] 28]++([]))))):=by simpa only [l5,
   r7] using hS124
 simp only [kd,B0,reduceIte,a9]
 refine jt hS125 (fun b126 h127 hS128=>?_)
 simp only [zp,B0,reduceIte,a9]
 refine zm (us:=[.int .i64 v106.Truth.Epoch,.int .i64 v106.Truth.Leader,v109,v113,v117]) rfl (cs':=[.int .i64 v106.Truth.Epoch,.int .i64 v106.Truth.Leader,v109,
   v113,v117]) hS128 hW rfl (qm rfl (qm rfl (qm (l7 hv111) (qm (a09 hv115) (qm (l7 hv119) zq))))) (nle rfl) rfl (fun h130 hS131=>?_)
 simp only [qa,q7o,qc,qd,f99,qn,B0,reduceIte,a9]
 refine qh (v := .agg [.int .i64 v_1.Kind,.int .i64 v_1.K,.int .i64 v_1.To,.int .i64 v_1.N]) rfl ?_
 obtain ⟨v132,hx133,hF134⟩:=qk hF108
 simp only [zg,B0,reduceIte,a9]
 refine y9 rfl (qku hW k b126 v106 v109 c110 hv111 v113 c114 hv115 v117 c118 hv119 v_1 v132 hx133 (l6 (l6 (l6 (l6 hS131))))) ?_
 rintro _ h145 ⟨v135,c136,c139,v141,c142,rfl,hv137,hv140,hv143,hS146⟩
 simp only [j8,qb,ko,qf,B0,reduceIte,a9]
 obtain ⟨v150,hx151,hF152⟩:=qk hF134
 refine ji 4 (fun fr' h'=>Sep h' (geL h.length) ([Blk1 b9 [.int .i64 0,.int .i64 0,.nil,.nil,.nil] 28]++([Blk1 b126 [.int .i64 v132.2.Truth.Epoch,
   .int .i64 v132.2.Truth.Leader,v135,v113,
   v141] 28]++(c136++(c139++(c142++([]))))))∧fr' 73 = .bool v150∧fr' 4 = .ptr b9 0∧fr' 8 = .ptr b126 0) (fun Q147 hN148=>?_) ?_
 ·simp only [f4,i7]
  simp only [qe (g:=69),B0,reduceIte,a9]
  refine ze (t:=(!v132.1)) (fun hg149=>?_) (fun hg149=>?_)
  ·rw [iteT hg149] at hx151
   simp only [hg149,qe (g:=69),jk,qw,qb,zo,qa,qp,B0,reduceIte,a9]
   have e153:=qj hx151
   exact hN148 _ _ ⟨(n9 (l6 (l6 (l6 (l6 hS146))))),by rw [←e153]; simp only [B0,reduceIte,a9],f100,rfl⟩
  ·rw [iteF hg149] at hx151
   simp only [hg149,qe (g:=69),qv,qn,B0,reduceIte,a9]
   refine qh (v := .agg [.int .i64 v132.2.Truth.Epoch,.int .i64 v132.2.Truth.Leader,v135,v113,v141]) ((zu (o9 _ _ _ hS146)).trans rfl) ?_
   obtain ⟨v154,hx155,hF156⟩:=qk hx151
   simp only [hg149,qe (g:=69),qv,zg,B0,reduceIte,a9]
   refine jo rfl (qi (zv (qi qo (qi qo (qi (a0c hv137 (n7 hS146) rfl (fun _=>rfl) (fun _=>rfl)) (qi (SlN.snap hv140 _
     (l9 hS146) rfl Node.RO) (qi (a0c hv143 (l6 hS146) rfl (fun _=>rfl) (fun _=>rfl)) zc)))))) zc) (qgn
     (fun b hb=>decide_eq_true hb) v132.2 v154 hx155) ?_
   simp only [hg149,qe (g:=69),qv,j8,qb,ko,qw,zn,qa,qp,B0,reduceIte,a9]
   have e157:=qj hF156
   exact hN148 _ _ ⟨(n9 (l6 (l6 (l6 (l6 hS146))))),by rw [←e157]; simp only [B0,reduceIte,a9],f100,rfl⟩
 rintro fr158 h162 ⟨hS163,f159,f160,f161⟩
 simp only [i0,i6]
 simp only [qa,q2z,f159,q9,B0,reduceIte,a9]
 refine qy (t:=v150) (fun hc164=>?_) (fun hc164=>?_)
 ·rw [iteT hc164] at hF152
  simp only [qc,qd,run_build,evp,B0,reduceIte,a9]
  refine qh (v := .agg [.int .i64 0,.int .i64 0,.nil,.nil,.nil]) rfl ?_
  simp only [f160,zp,B0,reduceIte,a9]
  refine zm (us:=[.int .i64 0,.int .i64 0,.nil,.nil,.nil]) rfl (cs':=[.int .i64 0,.int .i64 0,.nil,.nil,
    .nil]) hS163 hW rfl rfl (nle rfl) rfl (fun h165 hS166=>?_)
  simp only [qf,qa,qx,B0,reduceIte,a9]
  have he:=qj hF152
  subst he
  refine jy (qi (j7 (bb:=b9) (oo:=0) (v := .agg [.int .i64 0,.int .i64 0,.nil,.nil,
    .nil]) (f160) ((zu (o9 _ _ _ hS166)).trans rfl)) (qi (ye (v := .bool false) (rfl)) zc)) ?_
  exact ⟨.nil,[],.nil,[],.nil,[],by first | trivial | rfl,a2z,SlN.nil,a2z,
    ((o8 ((o8 ((o8 ((o8 ((o8 (hS166)))))))))) : Sep _ (geL h.length) ([]))⟩
 rw [iteF hc164] at hF152
 simp only [zh,qc,qd,f161,qn,B0,reduceIte,a9]
 refine qh (v := .agg [.int .i64 v132.2.Truth.Epoch,.int .i64 v132.2.Truth.Leader,v135,v113,v141]) ((zu (o9 _ _ _ (n7 hS163))).trans rfl) ?_
 simp only [f160,zp,B0,reduceIte,a9]
 refine zm (us:=[.int .i64 v132.2.Truth.Epoch,.int .i64 v132.2.Truth.Leader,v135,v113,v141]) rfl (cs':=[.int .i64 v132.2.Truth.Epoch,
   .int .i64 v132.2.Truth.Leader,v135,v113,
   v141]) hS163 hW rfl (qm rfl (qm rfl (qm (l7 hv137) (qm (a09 hv140) (qm (l7 hv143) zq))))) (nle rfl) rfl (fun h167 hS168=>?_)
 simp only [qf,qa,qx,B0,reduceIte,a9]
 have he:=qj hF152
 subst he
 refine jy (qi (j7 (bb:=b9) (oo:=0) (v := .agg [.int .i64 v132.2.Truth.Epoch,.int .i64 v132.2.Truth.Leader,v135,v113,
   v141]) (f160) ((zu (o9 _ _ _ hS168)).trans rfl)) (qi (ye (v := .bool true) (rfl)) zc)) ?_
 exact ⟨v135,c136,v113,c139,v141,c142,by first | trivial | rfl,hv137,hv140,hv143,(l9 (l9 (l9 (o8 ((o8 (hS168)))))))⟩
theorem qfv {W:Nat→Bool}{h:Heap} (hW:∀ b,
  (geL h.length) b→W b=true) (k:Nat) (c_0:Cluster) (x_1:ClusterStep) (r:Cluster × Bool)
  (hF:x5 k c_0 x_1=some r) : Ret E W 36 [.agg [.int .i64 c_0.Truth.Epoch,.int .i64 c_0.Truth.Leader,lst cI c_0.Truth.InStep,lst qq c_0.Nodes,
  lst qg c_0.Acked],.agg [.int .i64 x_1.Kind,.int .i64 x_1.K,.int .i64 x_1.To,.int .i64 x_1.N]] h (fun v h'=>∃ rv0_2 rc0_2 rv0_3 rc0_3 rv0_4 rc0_4,
  v = .tup [.agg [.int .i64 r.1.Truth.Epoch,.int .i64 r.1.Truth.Leader,rv0_2,rv0_3,rv0_4],
  .bool r.2]∧SlF cI 1 3 rv0_2 r.1.Truth.InStep rc0_2∧SlN Node.R 6 68 rv0_3 r.1.Nodes rc0_3∧SlF qg 2 92 rv0_4 r.1.Acked rc0_4∧Sep h' (geL h.length) (rc0_2 ++
  (rc0_3++(rc0_4++([]))))):=by
 refine Ret.of (fn:=x36) rfl (Run.of ?_)
 unfold x5 at hF
 have zf0:zb [.agg [.int .i64 c_0.Truth.Epoch,.int .i64 c_0.Truth.Leader,lst cI c_0.Truth.InStep,lst qq c_0.Nodes,lst qg c_0.Acked],
   .agg [.int .i64 x_1.Kind,.int .i64 x_1.K,.int .i64 x_1.To,.int .i64 x_1.N]] 0 = .agg [.int .i64 c_0.Truth.Epoch,.int .i64 c_0.Truth.Leader,lst cI c_0.Truth.InStep,
   lst qq c_0.Nodes,lst qg c_0.Acked]:=rfl
 have zf1:zb [.agg [.int .i64 c_0.Truth.Epoch,.int .i64 c_0.Truth.Leader,lst cI c_0.Truth.InStep,lst qq c_0.Nodes,lst qg c_0.Acked],
   .agg [.int .i64 x_1.Kind,.int .i64 x_1.K,.int .i64 x_1.To,.int .i64 x_1.N]] 1 = .agg [.int .i64 x_1.Kind,.int .i64 x_1.K,.int .i64 x_1.To,.int .i64 x_1.N]:=rfl
 generalize zb [.agg [.int .i64 c_0.Truth.Epoch,.int .i64 c_0.Truth.Leader,lst cI c_0.Truth.InStep,lst qq c_0.Nodes,lst qg c_0.Acked],
   .agg [.int .i64 x_1.Kind,.int .i64 x_1.K,.int .i64 x_1.To,.int .i64 x_1.N]]=fr0 at zf0 zf1 ⊢
 have hS:Sep h (geL h.length) []:=Sep.nil h
 simp only [x36,qc,qd,jp,zf0,B0,reduceIte,a9]
 refine je (cs:=[.int .i64 c_0.Truth.Epoch,.int .i64 c_0.Truth.Leader,lst cI c_0.Truth.InStep,lst qq c_0.Nodes,
   lst qg c_0.Acked]) hS rfl rfl rfl (fun b1 h2 hS3=>?_)
 simp only [jp,zf1,B0,reduceIte,a9]
 refine je (cs:=[.int .i64 x_1.Kind,.int .i64 x_1.K,.int .i64 x_1.To,.int .i64 x_1.N]) hS3 rfl rfl rfl (fun b5 h6 hS7=>?_)
 simp only [kd,B0,reduceIte,a9]
 refine jt hS7 (fun b9 h10 hS11=>?_)
 simp only [qf,qa,B0,reduceIte,a9]
 refine zx (l9 hS11) hW (by simp only [B0,reduceIte,a9]) (fun h13 hS14=>?_)
 refine zx (n7 hS14) hW (by simp only [B0,reduceIte,a9]) (fun h15 hS16=>?_)
 simp only [zw,q4o,qc,qd,qn,B0,reduceIte,a9]
 refine qh (v := .agg [.int .i64 c_0.Truth.Epoch,.int .i64 c_0.Truth.Leader,lst cI c_0.Truth.InStep,lst qq c_0.Nodes,lst qg c_0.Acked]) rfl ?_
 obtain ⟨v17,hx18,hF19⟩:=qk hF
 simp only [zg,B0,reduceIte,a9]
 refine jo rfl (qi (zv (qi qo (qi qo (qi zk (qi zk (qi zk zc)))))) zc) (qgn
   (fun b hb=>decide_eq_true hb) c_0 v17 hx18) ?_
 simp only [j8,qb,ko,qa,q4u,q9,B0,reduceIte,a9]
 refine qy (t:=(!v17)) (fun hc20=>?_) (fun hc20=>?_)
 ·rw [iteT hc20] at hF19
  simp only [qc,qd,run_build,evp,B0,reduceIte,a9]
  refine qh (v := .agg [.int .i64 0,.int .i64 0,.nil,.nil,.nil]) rfl ?_
  simp only [zp,B0,reduceIte,a9]
  refine zm (us:=[.int .i64 0,.int .i64 0,.nil,.nil,.nil]) rfl (cs':=[.int .i64 0,.int .i64 0,.nil,.nil,
    .nil]) hS16 hW rfl rfl (nle rfl) rfl (fun h21 hS22=>?_)
  simp only [qf,qa,qx,B0,reduceIte,a9]
  have he:=qj hF19
  subst he
  refine jy (qi (j7 (bb:=b9) (oo:=0) (v := .agg [.int .i64 0,.int .i64 0,.nil,.nil,
    .nil]) (rfl) ((zu (o9 _ _ _ hS22)).trans rfl)) (qi (ye (v := .bool false) (rfl)) zc)) ?_
  exact ⟨.nil,[],.nil,[],.nil,[],by first | trivial | rfl,a2z,SlN.nil,a2z,((o8 (hS22)) : Sep _ (geL h.length) ([]))⟩
 rw [iteF hc20] at hF19
 simp only [zh,qz6,qc,qd,qn,B0,reduceIte,a9]
 refine qh (v := .agg [.int .i64 c_0.Truth.Epoch,.int .i64 c_0.Truth.Leader,lst cI c_0.Truth.InStep,lst qq c_0.Nodes,lst qg c_0.Acked]) rfl ?_
 simp only [qn,B0,reduceIte,a9]
 refine qh (v := .agg [.int .i64 x_1.Kind,.int .i64 x_1.K,.int .i64 x_1.To,.int .i64 x_1.N]) rfl ?_
 obtain ⟨v23,hx24,hF25⟩:=qk hF19
 simp only [zg,B0,reduceIte,a9]
 refine qb1 rfl hS16 (qi (zv (qi qo (qi qo (qi zk (qi zk (qi zk zc)))))) (qi (zv (qi qo
   (qi qo (qi qo (qi qo zc))))) zc)) (qjp (fun b hb=>decide_eq_true hb) k c_0 x_1 v23 hx24) ?_
 rintro _ h38 ⟨v26,c27,v30,c31,v34,c35,rfl,hv28,hv32,hv36,hS39⟩
 refine ⟨_,qlz (qm (qkp (qm rfl (qm rfl (qm (a0n hv28) (qm (SlN.free1 hv32) (qm (a0n hv36) zq)))))) (qm rfl zq)),hS39,
   (jz (a1j hv28 (fun _=>rfl)) (jz (SlN.pf hv32 Node.RO) (jz (a1j hv36 (fun _=>rfl)) yu))),fun h40 hS41=>?_⟩
 have hS42:Sep h40 (geL h.length) (c27++(c31++(c35++([Blk1 b9 [.int .i64 0,.int .i64 0,.nil,.nil,.nil] 28]++([]))))):=by simpa only [l5,
   r7] using hS41
 simp only [qfd,qb,qcd,qcb,zp,B0,reduceIte,a9]
 refine zm (us:=[.int .i64 v23.1.Truth.Epoch,.int .i64 v23.1.Truth.Leader,v26,v30,v34]) rfl (cs':=[.int .i64 v23.1.Truth.Epoch,.int .i64 v23.1.Truth.Leader,v26,
   v30,v34]) (l6 hS42) hW rfl (qm rfl (qm rfl (qm (l7 hv28) (qm (a09 hv32) (qm (l7 hv36) zq))))) (nle rfl) rfl (fun h43 hS44=>?_)
 simp only [qf,qa,qx,B0,reduceIte,a9]
 have he:=qj hF25
 subst he
 refine jy (qi (j7 (bb:=b9) (oo:=0) (v := .agg [.int .i64 v23.1.Truth.Epoch,.int .i64 v23.1.Truth.Leader,v26,v30,
   v34]) (rfl) ((zu (o9 _ _ _ hS44)).trans rfl)) (qi (ye (v := .bool v23.2) (rfl)) zc)) ?_
 exact ⟨v26,c27,v30,c31,v34,c35,by first | trivial | rfl,hv28,hv32,hv36,(l9 (l9 (l9 (o8 (hS44)))))⟩
end Go.Proofs.Ytohofoampalhoaa.X
