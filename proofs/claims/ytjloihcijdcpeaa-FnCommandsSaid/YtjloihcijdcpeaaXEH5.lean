/- The functions' code comes to what the plain functions say (5). -/
import Derived.Test.YtjloihcijdcpeaaXEH4
open Go.IntKind renaming wrap→d8
open List renaming drop_succ_cons→b7,drop_zero→e8,length→b6,take_succ_cons→d7,take_zero→e9
open Nat renaming add_zero→b4,reduceAdd→a8,reduceEqDiff→a7,zero_add→a9
open Go.Proofs.Ytjloihcijdcpeaa.X.Sep renaming bk→l9,dc→l6,m1→f8,m2→f0,m3→i5,m4→o6,m5→s7,m6→r5,m7→a1i
open Go.Proofs.Ytjloihcijdcpeaa.X.SlF renaming isrow→a1t,nil→a1l,one→n7
open Go.Proofs.Ytjloihcijdcpeaa.X.SlN renaming len→a2h
set_option linter.unusedVariables false
set_option linter.unusedSimpArgs false
set_option maxRecDepth 100000
namespace Go.Proofs.Ytjloihcijdcpeaa.X
open Go
theorem qj1 {W:Nat→Bool}{h:Heap}{lo:Nat→Prop}{S0:List Obj} (hW:∀ b,
  lo b→W b=true) (pb0:Nat) (c_0:L1Cur) (r:Int × L1Cur) (hF:qei c_0=some r) (hS:Sep h lo ([Blk1 pb0 [lst cU8 c_0.code,.int .i64 c_0.at_,
  .int .u64 c_0.seed] 79]++(S0))) : Ret E W 87 [.ptr pb0 0] h (fun v h'=>v = .int .i64 r.1∧Sep h' lo ([Blk1 pb0 [lst cU8 r.2.code,.int .i64 r.2.at_,
  .int .u64 r.2.seed] 79]++(S0))):=by
 refine Ret.of (fn:=x87) rfl (Run.of ?_)
 unfold qei at hF
 have zf0:zj [.ptr pb0 0] 0 = .ptr pb0 0:=rfl
 generalize zj [.ptr pb0 0]=fr0 at zf0 ⊢
 simp only [x87,qh,qf,qg,qa,q5x,q0y,ji,zf0,jm,qt,yn,z7,z3,a8,a9,b4,
   q9,z2,B0,reduceIte,a7]
 refine zc (v := .int .i64 c_0.at_) ((z6 (l9 _ _ _ hS)).trans rfl) ?_
 simp only [zf0,jm,qt,yn,z7,z3,a8,a9,b4,q9,z2,B0,reduceIte,a7]
 refine zc (v:=lst cU8 c_0.code) ((z6 (l9 _ _ _ hS)).trans rfl) ?_
 simp only [qi8,qt,z1,wt,qfi,zm,qz8,qz,B0,reduceIte,a7]
 obtain ⟨s1,hX3,hk4⟩:=qk hF
 refine ue (t:=(decide (c_0.at_<(b6 c_0.code:Int)))) (fun fr' h'=>fr' 0 = .ptr pb0 0∧fr' 3 = .int .i64 s1∧Sep h' lo ([Blk1 pb0 [lst cU8 c_0.code,
   .int .i64 c_0.at_,.int .u64 c_0.seed] 79]++(S0))) (fun Q5 hN6 hR7 hE8=>⟨fun hc9=>?_,fun hc9=>?_⟩) ?_
 ·rw [iteT hc9] at hX3
  simp only [q5i,ji,zf0,jm,qt,yn,z7,z3,a8,a9,b4,q9,z2,B0,reduceIte,a7]
  refine zc (v:=lst cU8 c_0.code) ((z6 (l9 _ _ _ hS)).trans rfl) ?_
  simp only [zf0,jm,qt,yn,z7,z3,a8,a9,b4,q9,z2,B0,reduceIte,a7]
  refine zc (v := .int .i64 c_0.at_) ((z6 (l9 _ _ _ hS)).trans rfl) ?_
  obtain ⟨x10,hx11,hF12⟩:=qk hX3
  simp only [wn,B0,reduceIte,a7]
  refine zc (v := .ref (cU8 x10) 0) (uw hx11 rfl) ?_
  simp only [z2,B0,reduceIte,a7]
  refine zc (v := .int .u8 x10) rfl ?_
  simp only [q9q,qt,qmb,jm,zm,qn,B0,reduceIte,a7]
  have e13:=qj hF12
  subst e13
  exact hN6 _ _ ⟨zf0,rfl,hS⟩
 ·rw [iteF hc9] at hX3
  simp only [zf,qn,B0,reduceIte,a7]
  have e14:=qj hX3
  subst e14
  exact hN6 _ _ ⟨zf0,rfl,hS⟩
 rintro fr15 h16 ⟨f18,f19,hS17⟩
 unfold qe0 at hk4
 simp only [q1p,qh,qf,f18,qg,kx,qb,z7,qp,a8,a9,b4,q9,qm,B0,reduceIte,a7]
 refine qi (v := .int .i64 c_0.at_) ((z6 (l9 _ _ _ hS17)).trans rfl) ?_
 simp only [qv,qb,qal,kx,z7,qp,a8,a9,b4,q9,zk,B0,reduceIte,a7]
 refine zb (us:=[.int .i64 (d8 .i64 (c_0.at_+1))]) rfl (cs':=[lst cU8 c_0.code,.int .i64 (d8 .i64 (c_0.at_+1)),
   .int .u64 c_0.seed]) hS17 hW rfl rfl (nle rfl) rfl (fun h20 hS21=>?_)
 simp only [qa,q4m,qh,qf,f18,qg,kx,qb,z7,qp,a8,a9,b4,q9,qm,B0,reduceIte,
   a7]
 refine qi (v := .int .u64 c_0.seed) ((z6 (l9 _ _ _ hS21)).trans rfl) ?_
 simp only [qv,qb,q9k,f19,qg,qoi,qmb,qal,kx,z7,qp,a8,a9,b4,q9,zk,B0,reduceIte,
   a7]
 refine zb (us:=[.int .u64 (d8 .u64 ((d8 .u64 ((d8 .u64 (c_0.seed*6364136223846793005)) +
   (d8 .u64 s1)))+1442695040888963407))]) rfl (cs':=[lst cU8 c_0.code,.int .i64 (d8 .i64 (c_0.at_+1)),
   .int .u64 (d8 .u64 ((d8 .u64 ((d8 .u64 (c_0.seed*6364136223846793005))+(d8 .u64 s1)))+1442695040888963407))]) hS21 hW rfl rfl
   (nle rfl) rfl (fun h22 hS23=>?_)
 simp only [qa,q6j,qh,ji,f18,jm,qt,yn,z7,z3,a8,a9,b4,q9,z2,B0,reduceIte,
   a7]
 refine zc (v := .int .i64 (d8 .i64 (c_0.at_+1))) ((z6 (l9 _ _ _ hS23)).trans rfl) ?_
 simp only [f18,jm,qt,yn,z7,z3,a8,a9,b4,q9,z2,B0,reduceIte,a7]
 refine zc (v:=lst cU8 c_0.code) ((z6 (l9 _ _ _ hS23)).trans rfl) ?_
 simp only [qi8,qt,z1,wt,qp4,zm,q0p,qz,B0,reduceIte,a7]
 refine qx (t:=(decide ((d8 .i64 (c_0.at_+1))≤(b6 c_0.code:Int)))) (fun hc24=>?_) (fun hc24=>?_)
 ·rw [iteT hc24] at hk4
  simp only [qh,qf,f19,qg,qa,q8,B0,reduceIte,a7]
  have he:=qj hk4
  subst he
  simp only [zg,B0,reduceIte,a7]
  exact ⟨by first | trivial | rfl,hS23⟩
 rw [iteF hc24] at hk4
 simp only [zf,qy8,qh,qf,f18,qg,kx,qb,z7,qp,a8,a9,b4,q9,qm,B0,reduceIte,
   a7]
 refine qi (v := .int .u64 (d8 .u64 ((d8 .u64 ((d8 .u64 (c_0.seed*6364136223846793005))+(d8 .u64 s1)))+1442695040888963407)))
   ((z6 (l9 _ _ _ hS23)).trans rfl) ?_
 simp only [qv,qb,q79 (n:=40) (by decide),q95,qoi,qmb,qg,qa,q8,B0,reduceIte,a7]
 have he:=qj hk4
 subst he
 simp only [zg,B0,reduceIte,a7]
 exact ⟨by first | trivial | rfl,hS23⟩
theorem kd {W:Nat→Bool}{h:Heap}{lo:Nat→Prop}{S0:List Obj} (hW:∀ b,
  lo b→W b=true) (pb0:Nat) (c_0:L1Cur) (n_1:Int) (r:Int × L1Cur) (hF:j6 c_0 n_1=some r) (hS:Sep h lo ([Blk1 pb0 [lst cU8 c_0.code,.int .i64 c_0.at_,
  .int .u64 c_0.seed] 79]++(S0))) : Ret E W 60 [.ptr pb0 0,.int .i64 n_1] h (fun v h'=>v = .int .i64 r.1∧Sep h' lo ([Blk1 pb0 [lst cU8 r.2.code,.int .i64 r.2.at_,
  .int .u64 r.2.seed] 79]++(S0))):=by
 refine Ret.of (fn:=x60) rfl (Run.of ?_)
 unfold j6 at hF
 have zf0:zj [.ptr pb0 0,.int .i64 n_1] 0 = .ptr pb0 0:=rfl
 have zf1:zj [.ptr pb0 0,.int .i64 n_1] 1 = .int .i64 n_1:=rfl
 generalize zj [.ptr pb0 0,.int .i64 n_1]=fr0 at zf0 zf1 ⊢
 simp only [x60,qh,qf,qg,qa,q1n,zf1,qv,qb,qp4,qz,B0,reduceIte,a7]
 refine qx (t:=(decide (n_1≤1))) (fun hc1=>?_) (fun hc1=>?_)
 ·rw [iteT hc1] at hF
  simp only [qh,qf,qg,qa,q8,B0,reduceIte,a7]
  have he:=qj hF
  subst he
  simp only [zg,B0,reduceIte,a7]
  exact ⟨by first | trivial | rfl,hS⟩
 rw [iteF hc1] at hF
 obtain ⟨v2,hx3,hF4⟩:=qk hF
 simp only [zf,q1d,qh,qf,zf0,qg,za,B0,reduceIte,a7]
 refine kp rfl (qj1 hW pb0 c_0 v2 hx3 hS) ?_
 rintro _ h5 ⟨rfl,hS6⟩
 simp only [qg,qa,q7e,qh,qf,zf1,qv,qb,qc7,q05,qz,B0,reduceIte,a7]
 refine qx (t:=(decide ((200:Int)<n_1))) (fun hc7=>?_) (fun hc7=>?_)
 ·rw [iteT hc7] at hF4
  obtain ⟨v8,hx9,hF10⟩:=qk hF4
  simp only [q7c,qf,qg,qv,qb,q9k,zf0,za,B0,reduceIte,a7]
  refine kp rfl (qj1 hW pb0 v2.2 v8 hx9 hS6) ?_
  rintro _ h11 ⟨rfl,hS12⟩
  obtain ⟨hp13,hF14⟩:=qot hF10
  simp only [qv,qb,qal,qg,qa,qo2,qh,qf,zf1,qou (n:=n_1) hp13,q8,B0,reduceIte,a7]
  have he:=qj hF14
  subst he
  simp only [zg,B0,reduceIte,a7]
  exact ⟨by first | trivial | rfl,hS12⟩
 rw [iteF hc7] at hF4
 obtain ⟨hp15,hF16⟩:=qot hF4
 simp only [zf,qo2,qh,qf,qg,zf1,qv,qb,qou (n:=n_1) hp15,qa,q8,B0,reduceIte,a7]
 have he:=qj hF16
 subst he
 simp only [zg,B0,reduceIte,a7]
 exact ⟨by first | trivial | rfl,hS6⟩
theorem qbz {W:Nat→Bool}{h:Heap}{lo:Nat→Prop}{S0:List Obj} (hW:∀ b,
  lo b→W b=true) (pb0:Nat) (c_0:L1Cur) (n_1:Int) (r:Bool × L1Cur) (hF:ux c_0 n_1=some r) (hS:Sep h lo ([Blk1 pb0 [lst cU8 c_0.code,.int .i64 c_0.at_,
  .int .u64 c_0.seed] 79]++(S0))) : Ret E W 74 [.ptr pb0 0,.int .i64 n_1] h (fun v h'=>v = .bool r.1∧Sep h' lo ([Blk1 pb0 [lst cU8 r.2.code,.int .i64 r.2.at_,
  .int .u64 r.2.seed] 79]++(S0))):=by
 refine Ret.of (fn:=x74) rfl (Run.of ?_)
 unfold ux at hF
 have zf0:zj [.ptr pb0 0,.int .i64 n_1] 0 = .ptr pb0 0:=rfl
 have zf1:zj [.ptr pb0 0,.int .i64 n_1] 1 = .int .i64 n_1:=rfl
 generalize zj [.ptr pb0 0,.int .i64 n_1]=fr0 at zf0 zf1 ⊢
 obtain ⟨v1,hx2,hF3⟩:=qk hF
 simp only [x74,qh,qf,qg,qa,q6i,zf0,zf1,za,B0,reduceIte,a7]
 refine kp rfl (kd hW pb0 c_0 n_1 v1 hx2 hS) ?_
 rintro _ h4 ⟨rfl,hS5⟩
 simp only [qv,qb,z8,qg,qa,q8,B0,reduceIte,a7]
 have he:=qj hF3
 subst he
 simp only [zg,B0,reduceIte,a7]
 exact ⟨by first | trivial | rfl,hS5⟩
theorem qdj {W:Nat→Bool}{h:Heap}{lo:Nat→Prop}{S0:List Obj} (hW:∀ b,
  lo b→W b=true) (pb0:Nat) (c_0:L1Cur) (pv1:XV) (pc1:List Obj) (list_1:List Int) (ph1:SlF cI 1 3 pv1 list_1 pc1) (r:Int × L1Cur × (List Int))
  (hF:qaz c_0 list_1=some r) (hS:Sep h lo ([Blk1 pb0 [lst cU8 c_0.code,.int .i64 c_0.at_,.int .u64 c_0.seed] 79]++(pc1++(S0)))) : Ret E W 81 [.ptr pb0 0,
  pv1] h (fun v h'=>∃ ic1,v = .int .i64 r.1∧SlF cI 1 3 pv1 r.2.2 ic1∧Sep h' lo ([Blk1 pb0 [lst cU8 r.2.1.code,.int .i64 r.2.1.at_,
  .int .u64 r.2.1.seed] 79]++(ic1++(S0)))):=by
 refine Ret.of (fn:=x81) rfl (Run.of ?_)
 unfold qaz at hF
 have zf0:zj [.ptr pb0 0,pv1] 0 = .ptr pb0 0:=rfl
 have zf1:zj [.ptr pb0 0,pv1] 1=pv1:=rfl
 generalize zj [.ptr pb0 0,pv1]=fr0 at zf0 zf1 ⊢
 obtain ⟨v1,hx2,hF3⟩:=qk hF
 simp only [x81,qh,qf,qg,qa,q11,zf1,zf0,zx,qb,SlF.plen ph1,za,B0,reduceIte,a7]
 refine kp rfl (kd hW pb0 c_0 (b6 list_1:Int) v1 hx2 hS) ?_
 rintro _ h4 ⟨rfl,hS5⟩
 obtain ⟨x6,hx7,hF8⟩:=qk hF3
 simp only [jf,B0,reduceIte,a7]
 obtain ⟨b9,hb10⟩:=a1t ph1 (kq hx7)
 refine qi (SlF.ia ph1 hb10 hx7) ?_
 simp only [qm,B0,reduceIte,a7]
 refine qi (v := .int .i64 x6) ((SlF.ld (o:=0) ph1 (f8 hS5) hb10 hx7 (fun _=>rfl) (nle rfl)).trans rfl) ?_
 simp only [qg,qa,q8,B0,reduceIte,a7]
 have he:=qj hF8
 subst he
 simp only [zg,B0,reduceIte,a7]
 exact ⟨pc1,by first | trivial | rfl,ph1,(f8 (f8 hS5))⟩
end Go.Proofs.Ytjloihcijdcpeaa.X
namespace Go.Proofs.Ytjloihcijdcpeaa.X
open Go
theorem qgl {W:Nat→Bool}{h:Heap}{lo:Nat→Prop}{S0:List Obj} (hW:∀ b,
  lo b→W b=true) (k:Nat) (pb0:Nat) (v_0:L1Cur) (v_1:Control) (pv1_0:XV) (pc1_0:List Obj) (ph1_0:SlF qe 3 86 pv1_0 v_1.Brokers pc1_0) (pv1_1:XV)
  (pc1_1:List Obj) (ph1_1:SlN Partition.R 5 39 pv1_1 v_1.Parts pc1_1) (r:Command × L1Cur × Control) (hF:qad k v_0 v_1=some r) (hS:Sep h lo
  ([Blk1 pb0 [lst cU8 v_0.code,.int .i64 v_0.at_,.int .u64 v_0.seed] 79]++(pc1_0++(pc1_1++(S0))))) : Ret E W 53 [.ptr pb0 0,.agg [pv1_0,pv1_1,
  .int .i64 v_1.Next]] h (fun v h'=>∃ rv0_5 rc0_5 ic1_0 ic1_1,v = .agg [.int .i64 r.1.Kind,.int .i64 r.1.Broker,.int .i64 r.1.Epoch,.int .i64 r.1.Part,
  .int .i64 r.1.Stamp,rv0_5]∧SlF cI 1 3 rv0_5 r.1.InStep rc0_5∧SlF qe 3 86 pv1_0 r.2.2.Brokers ic1_0∧SlN Partition.R 5 39 pv1_1 r.2.2.Parts ic1_1∧Sep h' lo
  (rc0_5++([Blk1 pb0 [lst cU8 r.2.1.code,.int .i64 r.2.1.at_,.int .u64 r.2.1.seed] 79]++(ic1_0++(ic1_1++(S0)))))):=by
 refine Ret.of (fn:=x53) rfl (Run.of ?_)
 unfold qad at hF
 have zf0:zj [.ptr pb0 0,.agg [pv1_0,pv1_1,.int .i64 v_1.Next]] 0 = .ptr pb0 0:=rfl
 have zf1:zj [.ptr pb0 0,.agg [pv1_0,pv1_1,.int .i64 v_1.Next]] 1 = .agg [pv1_0,pv1_1,.int .i64 v_1.Next]:=rfl
 generalize zj [.ptr pb0 0,.agg [pv1_0,pv1_1,.int .i64 v_1.Next]]=fr0 at zf0 zf1 ⊢
 simp only [x53,qh,qf,jp,zf1,B0,reduceIte,a7]
 refine jc (cs:=[pv1_0,pv1_1,.int .i64 v_1.Next]) hS rfl rfl (qo (n7 ph1_0) (qo (SlN.one ph1_1) (qo rfl zl))) (fun b1 h2 hS3=>?_)
 simp only [z5,B0,reduceIte,a7]
 refine zt hS3 (fun b5 h6 hS7=>?_)
 simp only [qa,B0,reduceIte,a7]
 refine zq (f8 hS7) hW (by simp only [B0,reduceIte,a7]) (fun h9 hS10=>?_)
 simp only [zp,quc,qh,qf,qp,qb,a8,a9,b4,qs,qm,B0,reduceIte,a7]
 refine qi (v:=pv1_0) rfl ?_
 simp only [zx,qb,SlF.plen ph1_0,qg,qa,qul,qh,qf,zf0,j0,evp,B0,reduceIte,a7]
 refine ju (n:=1) (f:=cI) [1,1,2,2,3,3,4,5,5,5,6] hS10 rfl rfl (fun v11 c12 h13 hv14 hS15=>?_)
 obtain ⟨v17,hx18,hF19⟩:=qk hF
 simp only [za,B0,reduceIte,a7]
 refine kp rfl (qdj hW pb0 v_0 v11 c12 [1,1,2,2,3,3,4,5,5,5,6] hv14 v17 hx18 (f0 hS15)) ?_
 rintro _ h22 ⟨c20,rfl,hv21,hS23⟩
 simp only [run_build,evp,B0,reduceIte,a7]
 refine qi (v := .agg [.int .i64 v17.1,.int .i64 0,.int .i64 0,.int .i64 0,.int .i64 0,.nil]) rfl ?_
 simp only [z5,B0,reduceIte,a7]
 refine zt hS23 (fun b24 h25 hS26=>?_)
 simp only [zk,B0,reduceIte,a7]
 refine zb (us:=[.int .i64 v17.1,.int .i64 0,.int .i64 0,.int .i64 0,.int .i64 0,.nil]) rfl (cs':=[.int .i64 v17.1,.int .i64 0,.int .i64 0,.int .i64 0,
   .int .i64 0,.nil]) hS26 hW rfl rfl (nle rfl) rfl (fun h28 hS29=>?_)
 simp only [qa,qwh,qh,qf,qp,qb,a8,a9,b4,q9,qm,B0,reduceIte,a7]
 refine qi (v := .int .i64 v17.1) ((z6 (l9 _ _ _ hS29)).trans rfl) ?_
 simp only [qa,qqw,wi,qvc,qh,qf,qv,qb,z8,qg,qvq,qz,B0,reduceIte,a7]
 obtain ⟨oc39,hX40,hk41⟩:=jo hF19
 refine ue (t:=(decide (v17.1=1))) (fun fr' h'=>∃ s,oc39 = .nxt s∧∃ v33 c34 c37,
   fr' 0 = .ptr pb0 0∧fr' 4 = .ptr b5 0∧fr' 6 = .ptr b24 0∧SlF cI 1 3 v33 s.2.1.InStep c34∧SlN Partition.R 5 39 pv1_1 s.2.2 c37∧Sep h' lo
   ([Blk1 pb0 [lst cU8 s.1.code,.int .i64 s.1.at_,.int .u64 s.1.seed] 79]++([Blk1 b5 [.int .i64 0,.int .i64 0,.int .i64 0,.int .i64 0,.int .i64 0,
   .nil] 44]++([Blk1 b24 [.int .i64 s.2.1.Kind,.int .i64 s.2.1.Broker,.int .i64 s.2.1.Epoch,.int .i64 s.2.1.Part,.int .i64 s.2.1.Stamp,
   v33] 44]++(pc1_0++(c37++(c34++(S0)))))))) (fun Q42 hN43 hR44 hE45=>⟨fun hc46=>?_,fun hc46=>?_⟩) ?_
 ·rw [iteT hc46] at hX40
  obtain ⟨v47,hx48,hF49⟩:=qk hX40
  simp only [q0l,qf,zf0,qg,za,B0,reduceIte,a7]
  refine kp rfl (kd hW pb0 v17.2.1 (b6 v_1.Brokers:Int) v47 hx48 (f8 hS29)) ?_
  rintro _ h50 ⟨rfl,hS51⟩
  simp only [qp,qb,a8,a9,b4,q9,zk,B0,reduceIte,a7]
  refine zb (us:=[.int .i64 v47.1]) rfl (cs':=[.int .i64 v17.1,.int .i64 v47.1,.int .i64 0,.int .i64 0,.int .i64 0,
    .nil]) (f8 hS51) hW rfl rfl (nle rfl) rfl (fun h52 hS53=>?_)
  simp only [qa,qn,B0,reduceIte,a7]
  have e54:=qj hF49
  exact hN43 _ _ ⟨_,e54.symm,.nil,[],pc1_1,zf0,rfl,rfl,a1l,ph1_1,
    ((o6 (o6 (f0 (o6 (o6 (l6 (f0 hS53))))))) : Sep _ lo ([Blk1 pb0 [lst cU8 v47.2.code,.int .i64 v47.2.at_,
    .int .u64 v47.2.seed] 79]++([Blk1 b5 [.int .i64 0,.int .i64 0,.int .i64 0,.int .i64 0,.int .i64 0,.nil] 44]++([Blk1 b24 [.int .i64 v17.1,.int .i64 v47.1,
    .int .i64 0,.int .i64 0,.int .i64 0,.nil] 44]++(pc1_0++(pc1_1++(S0)))))))⟩
 ·rw [iteF hc46] at hX40
  simp only [qw9,qh,qf,qv,qb,z8,qg,qa,qxe,qz,B0,reduceIte,a7]
  refine qx (t:=(decide (v17.1=2))) (fun hc55=>?_) (fun hc55=>?_)
  ·rw [iteT hc55] at hX40
   obtain ⟨v56,hx57,hF58⟩:=qk hX40
   simp only [q6k,qh,qf,zf0,qg,za,B0,reduceIte,a7]
   refine kp rfl (kd hW pb0 v17.2.1 (b6 v_1.Brokers:Int) v56 hx57 (f8 hS29)) ?_
   rintro _ h59 ⟨rfl,hS60⟩
   simp only [qp,qb,a8,a9,b4,q9,zk,B0,reduceIte,a7]
   refine zb (us:=[.int .i64 v56.1]) rfl (cs':=[.int .i64 v17.1,.int .i64 v56.1,.int .i64 0,.int .i64 0,.int .i64 0,
     .nil]) (f8 hS60) hW rfl rfl (nle rfl) rfl (fun h61 hS62=>?_)
   simp only [qa,q0n,qh,qf,qp,qb,a8,a9,b4,qs,qm,B0,reduceIte,a7]
   refine qi (v:=pv1_0) rfl ?_
   simp only [qp,qb,a8,a9,b4,q9,qm,B0,reduceIte,a7]
   refine qi (v := .int .i64 v56.1) ((z6 (l9 _ _ _ hS62)).trans rfl) ?_
   obtain ⟨x63,hx64,hF65⟩:=qk hF58
   simp only [jf,B0,reduceIte,a7]
   obtain ⟨b66,hb67⟩:=a1t ph1_0 (kq hx64)
   refine qi (SlF.ia ph1_0 hb67 hx64) ?_
   simp only [qp,qb,a8,a9,b4,q9,qm,B0,reduceIte,a7]
   refine qi (v := .int .i64 x63.Epoch) ((SlF.ld (o:=0) ph1_0 (o6 hS62) hb67 hx64 (fun _=>rfl) (nle rfl)).trans rfl) ?_
   simp only [qp,qb,a8,a9,b4,q9,zk,B0,reduceIte,a7]
   refine zb (us:=[.int .i64 x63.Epoch]) rfl (cs':=[.int .i64 v17.1,.int .i64 v56.1,.int .i64 x63.Epoch,.int .i64 0,.int .i64 0,
     .nil]) hS62 hW rfl rfl (nle rfl) rfl (fun h68 hS69=>?_)
   obtain ⟨v70,hx71,hF72⟩:=qk hF65
   simp only [qa,q4l,qh,qf,zf0,qg,za,B0,reduceIte,a7]
   refine kp rfl (qbz hW pb0 v56.2 6 v70 hx71 (f8 hS69)) ?_
   rintro _ h73 ⟨rfl,hS74⟩
   simp only [qa,q6h,qz,B0,reduceIte,a7]
   refine qx (t:=v70.1) (fun hc75=>?_) (fun hc75=>?_)
   ·rw [iteT hc75] at hF72
    simp only [q66,qf,qp,qb,a8,a9,b4,q9,qm,B0,reduceIte,a7]
    refine qi (v := .int .i64 x63.Epoch) ((z6 (l9 _ _ _ (f8 hS74))).trans rfl) ?_
    simp only [qv,qb,qal,qp,a8,a9,b4,q9,zk,B0,reduceIte,a7]
    refine zb (us:=[.int .i64 (d8 .i64 (x63.Epoch+1))]) rfl (cs':=[.int .i64 v17.1,.int .i64 v56.1,.int .i64 (d8 .i64 (x63.Epoch+1)),
      .int .i64 0,.int .i64 0,.nil]) (f8 hS74) hW rfl rfl (nle rfl) rfl (fun h76 hS77=>?_)
    simp only [qa,qn,B0,reduceIte,a7]
    have e78:=qj hF72
    exact hN43 _ _ ⟨_,e78.symm,.nil,[],pc1_1,zf0,rfl,rfl,a1l,ph1_1,
      ((o6 (o6 (f0 (o6 (o6 (l6 (f0 hS77))))))) : Sep _ lo ([Blk1 pb0 [lst cU8 v70.2.code,.int .i64 v70.2.at_,
      .int .u64 v70.2.seed] 79]++([Blk1 b5 [.int .i64 0,.int .i64 0,.int .i64 0,.int .i64 0,.int .i64 0,.nil] 44]++([Blk1 b24 [.int .i64 v17.1,.int .i64 v56.1,
      .int .i64 (d8 .i64 (x63.Epoch+1)),.int .i64 0,.int .i64 0,.nil] 44]++(pc1_0++(pc1_1++(S0)))))))⟩
   rw [iteF hc75] at hF72
   simp only [zf,qn,B0,reduceIte,a7]
   have e79:=qj hF72
   exact hN43 _ _ ⟨_,e79.symm,.nil,[],pc1_1,zf0,rfl,rfl,a1l,ph1_1,
     ((o6 (o6 (i5 (o6 (o6 (l6 (f0 hS74))))))) : Sep _ lo ([Blk1 pb0 [lst cU8 v70.2.code,.int .i64 v70.2.at_,
     .int .u64 v70.2.seed] 79]++([Blk1 b5 [.int .i64 0,.int .i64 0,.int .i64 0,.int .i64 0,.int .i64 0,.nil] 44]++([Blk1 b24 [.int .i64 v17.1,.int .i64 v56.1,
     .int .i64 x63.Epoch,.int .i64 0,.int .i64 0,.nil] 44]++(pc1_0++(pc1_1++(S0)))))))⟩
  rw [iteF hc55] at hX40
  simp only [qrp,qh,qf,qv,qb,z8,qg,qa,qui,qz,B0,reduceIte,a7]
  refine qx (t:=(decide (v17.1=4))) (fun hc80=>?_) (fun hc80=>?_)
  ·rw [iteT hc80] at hX40
   simp only [qrm,qh,qf,qg,qa,B0,reduceIte,a7]
   obtain ⟨oc97,hX99,hk100⟩:=jo hX40
   simp only [qta]
   refine qlk (σ:=Int × L1Cur × Command) (fun s145=>wb v_1 s145.1 s145.2.1 s145.2.2) (fun s fr' h'=>∃ v92 c93,
     fr' 0 = .ptr pb0 0∧fr' 4 = .ptr b5 0∧fr' 5 = .int .i64
     (b6 v_1.Brokers:Int)∧fr' 6 = .ptr b24 0∧fr' 7 = .int .i64 s.1∧SlF cI 1 3 v92 s.2.2.InStep c93∧Sep h' lo ([Blk1 pb0 [lst cU8 s.2.1.code,
     .int .i64 s.2.1.at_,.int .u64 s.2.1.seed] 79]++([Blk1 b5 [.int .i64 0,.int .i64 0,.int .i64 0,.int .i64 0,.int .i64 0,
     .nil] 44]++([Blk1 b24 [.int .i64 s.2.2.Kind,.int .i64 s.2.2.Broker,.int .i64 s.2.2.Epoch,.int .i64 s.2.2.Part,.int .i64 s.2.2.Stamp,
     v92] 44]++(pc1_0++(pc1_1++(c93++(S0)))))))) hX99 ⟨.nil,[],zf0,rfl,rfl,rfl,rfl,a1l,
     ((o6 (o6 (f0 (o6 (o6 (l6 (f0 hS29))))))) : Sep _ lo ([Blk1 pb0 [lst cU8 v17.2.1.code,.int .i64 v17.2.1.at_,
     .int .u64 v17.2.1.seed] 79]++([Blk1 b5 [.int .i64 0,.int .i64 0,.int .i64 0,.int .i64 0,.int .i64 0,.nil] 44]++([Blk1 b24 [.int .i64 v17.1,.int .i64 0,
     .int .i64 0,.int .i64 0,.int .i64 0,.nil] 44]++(pc1_0++(pc1_1++(S0)))))))⟩ (fun _ _ _ h=>h) ?_ ?_
   ·rintro ⟨s88,s89,s90⟩ fr109 h110 ⟨v92,c93,f112,f113,f114,f115,f116,hv94,hS111⟩ oc98 hF101 hr102 Q103 hN104 hK105 hR106 hE107
    dsimp only at *
    unfold wb at hF101
    simp only [qw0,qh,qf,f116,qg,f114,qv,qb,qfi,qa,qz,B0,reduceIte,a7]
    refine qx (t:=(decide (s88<(b6 v_1.Brokers:Int)))) (fun hc118=>?_) (fun hc118=>?_)
    ·rw [iteT hc118] at hF101
     obtain ⟨v119,hx120,hF121⟩:=qk hF101
     simp only [zf,qt5,qh,wi,q6p,qf,f112,qg,za,B0,reduceIte,a7]
     refine kp rfl (qbz hW pb0 s89 2 v119 hx120 hS111) ?_
     rintro _ h122 ⟨rfl,hS123⟩
     simp only [qa,qza,qz,B0,reduceIte,a7]
     refine qx (t:=v119.1) (fun hc124=>?_) (fun hc124=>?_)
     ·rw [iteT hc124] at hF121
      simp only [q0e,qf,f115,qp,qb,a8,a9,b4,q9,qm,B0,reduceIte,a7]
      refine qi (v:=v92) ((z6 (l9 _ _ _ (f0 hS123))).trans rfl) ?_
      simp only [f116,qg,j0,evp,B0,reduceIte,a7]
      refine ju (n:=1) (f:=cI) [s88] hS123 rfl rfl (fun v125 c126 h127 hv128 hS129=>?_)
      simp only [wz,B0,reduceIte,a7]
      obtain ⟨l131,hx132,hF133⟩:=qk hF121
      refine yx (f:=cI) hv94 (r5 hS129) hW (fun _=>rfl) (fun _=>rfl) (SlF.first hv128 hS129 (fun _=>rfl)) hx132 (fun v134 c135 h136 hv137 hS138=>?_)
      simp only [f115,qp,qb,a8,a9,b4,q9,zk,B0,reduceIte,a7]
      refine zb (us:=[v134]) (kw (n7 hv137)) (cs':=[.int .i64 s90.Kind,.int .i64 s90.Broker,.int .i64 s90.Epoch,.int .i64 s90.Part,
        .int .i64 s90.Stamp,v134]) (o6 hS138) hW rfl (qo (n7 hv137) zl) (nle rfl) rfl (fun h140 hS141=>?_)
      simp only [qa,ki,qf,f116,qg,qv,qb,qal,qn,B0,reduceIte,a7]
      have e142:=qj hF133
      exact hN104 _ _ _ e142.symm ⟨v134,c135,f112,f113,f114,f115,rfl,hv137,(s7 (s7 (i5 (s7 (s7 (f8 (l6 (f0 hS141))))))))⟩
     rw [iteF hc124] at hF121
     simp only [zf,ki,qf,f116,qg,qv,qb,qal,qa,qn,B0,reduceIte,a7]
     have e143:=qj hF121
     exact hN104 _ _ _ e143.symm ⟨v92,c93,f112,f113,f114,f115,rfl,hv94,(s7 (s7 (s7 (s7 (s7 (s7 hS123))))))⟩
    rw [iteF hc118] at hF101
    simp only [qiq,qg9,qh2,B0,reduceIte,a7]
    have e144:=qj hF101
    exact hK105 _ _ _ e144.symm ⟨v92,c93,f112,f113,f114,f115,f116,hv94,(s7 (s7 (s7 (s7 (s7 (s7 hS111))))))⟩
   rintro ⟨s146,s147,s148⟩ fr153 h154 rfl ⟨v150,c151,f156,f157,f158,f159,f160,hv152,hS155⟩
   dsimp only [jnO] at hk100
   dsimp only at *
   unfold qda at hk100
   simp only [qn,B0,reduceIte,a7]
   have e161:=qj hk100
   exact hN43 _ _ ⟨_,e161.symm,v150,c151,pc1_1,f156,f157,f159,hv152,ph1_1,(s7 (s7 (s7 (s7 (s7 (s7 hS155))))))⟩
  rw [iteF hc80] at hX40
  simp only [qun,qh,qf,qv,qb,z8,qg,qa,qv4,qz,B0,reduceIte,a7]
  obtain ⟨s163,hX165,hk166⟩:=qk hX40
  refine ue (t:=(decide (v17.1=5))) (fun fr' h'=>fr' 0 = .ptr pb0 0∧fr' 3 = .ref [pv1_0,pv1_1,
    .int .i64 v_1.Next] 0∧fr' 4 = .ptr b5 0∧fr' 5 = .int .i64 (b6 v_1.Brokers:Int)∧fr' 6 = .ptr b24 0∧fr' 61 = .bool s163∧Sep h' lo
    ([Blk1 pb0 [lst cU8 v17.2.1.code,.int .i64 v17.2.1.at_,.int .u64 v17.2.1.seed] 79]++(pc1_0++(pc1_1++([Blk1 b5 [.int .i64 0,.int .i64 0,.int .i64 0,.int .i64 0,
    .int .i64 0,.nil] 44]++([Blk1 b24 [.int .i64 v17.1,.int .i64 0,.int .i64 0,.int .i64 0,.int .i64 0,
    .nil] 44]++(S0))))))) (fun Q167 hN168 hR169 hE170=>⟨fun hc171=>?_,fun hc171=>?_⟩) ?_
  ·rw [iteT hc171] at hX165
   simp only [zf,qn,B0,reduceIte,a7]
   have e172:=qj hX165
   subst e172
   exact hN168 _ _ ⟨zf0,rfl,rfl,rfl,rfl,rfl,(o6 (o6 (o6 (f0 (l6 (f0 hS29))))))⟩
  ·rw [iteF hc171] at hX165
   simp only [qf,qv,qb,z8,qg,qa,qn,B0,reduceIte,a7]
   have e173:=qj hX165
   subst e173
   exact hN168 _ _ ⟨zf0,rfl,rfl,rfl,rfl,rfl,(o6 (o6 (o6 (f0 (l6 (f0 hS29))))))⟩
  rintro fr174 h175 ⟨f177,f178,f179,f180,f181,f182,hS176⟩
  unfold u3 at hk166
  simp only [qum,f182,qz,B0,reduceIte,a7]
  refine qx (t:=s163) (fun hc183=>?_) (fun hc183=>?_)
  ·rw [iteT hc183] at hk166
   simp only [qtd,qh,qf,f178,qp,qb,a8,a9,b4,qs,qm,B0,reduceIte,a7]
   refine qi (v:=pv1_1) rfl ?_
   simp only [zx,qb,a2h ph1_1,qv,z8,qa,qvn,qz,B0,reduceIte,a7]
   refine qx (t:=(decide ((b6 v_1.Parts:Int)=0))) (fun hc184=>?_) (fun hc184=>?_)
   ·rw [iteT hc184] at hk166
    simp only [qh,qf,run_build,evp,B0,reduceIte,a7]
    refine qi (v := .agg [.int .i64 3,.int .i64 0,.int .i64 0,.int .i64 0,.int .i64 0,.nil]) rfl ?_
    simp only [f179,zk,B0,reduceIte,a7]
    refine zb (us:=[.int .i64 3,.int .i64 0,.int .i64 0,.int .i64 0,.int .i64 0,.nil]) rfl (cs':=[.int .i64 3,.int .i64 0,.int .i64 0,.int .i64 0,
      .int .i64 0,.nil]) (i5 hS176) hW rfl rfl (nle rfl) rfl (fun h185 hS186=>?_)
    simp only [qa,q8,B0,reduceIte,a7]
    have e187:=qj hk166
    subst e187
    have hk41':=hk41
    dsimp only [jnO] at hk41'
    apply hR44
    have he:=qj hk41'
    subst he
    refine jk (bb:=b5) (oo:=0) (v := .agg [.int .i64 3,.int .i64 0,.int .i64 0,.int .i64 0,.int .i64 0,.nil]) (by simp only [f179,B0,reduceIte,
      a7]) ((zw (l9 _ _ _ hS186)).trans rfl) ?_
    exact ⟨.nil,[],pc1_0,pc1_1,by first | trivial | rfl,a1l,ph1_0,ph1_1,
      ((f0 (f0 (f0 (l6 (i5 (l6 (hS186))))))) : Sep _ lo ([Blk1 pb0 [lst cU8 v17.2.1.code,.int .i64 v17.2.1.at_,
      .int .u64 v17.2.1.seed] 79]++(pc1_0++(pc1_1++(S0)))))⟩
   rw [iteF hc184] at hk166
   simp only [zf,qqv,qh,ji,f177,qpf,qt,f178,qdl,a8,a9,b4,qs,qbc,qci,B0,reduceIte,
     a7]
   refine zc (v:=pv1_1) rfl ?_
   obtain ⟨v188,hx189,hF190⟩:=qk hk166
   simp only [q9u,qt,a2h ph1_1,f177,jm,qa1,B0,reduceIte,a7]
   refine qk3 rfl (ms:=[pb0]) rfl qjk hW hS176 rfl (Nat.le_refl _) (fun b hb=>((l6 hS176).ran b hb).2)
     (fun hWq hSq=>kd hWq pb0 v17.2.1 12 v188 hx189 hSq) ?_
   rintro _ h191 ⟨rfl,hS192⟩ hback
   replace hS192:=hback _ hS192
   obtain ⟨v193,hx194,hF195⟩:=qk hF190
   simp only [wt,qt,q78 (n:=11) (by decide),qal,xx,B0,reduceIte,a7]
   refine qwq rfl (kd hW pb0 v188.2 (d8 .i64 ((b6 v_1.Parts:Int)+(d8 .i64 (Int.tdiv v188.1 11)))) v193 hx194 hS192) ?_
   rintro _ h196 ⟨rfl,hS197⟩
   simp only [f181,z3,qt,a8,a9,b4,q9,uy,B0,reduceIte,a7]
   refine qay (us:=[.int .i64 v193.1]) rfl (cs':=[.int .i64 v17.1,.int .i64 0,.int .i64 0,.int .i64 v193.1,.int .i64 0,
     .nil]) (o6 hS197) hW rfl rfl (nle rfl) rfl (fun h198 hS199=>?_)
   simp only [zm,qwx,qh,qf,f181,qp,qb,a8,a9,b4,q9,qm,B0,reduceIte,a7]
   refine qi (v := .int .i64 v193.1) ((z6 (l9 _ _ _ hS199)).trans rfl) ?_
   simp only [f178,qp,qb,a8,a9,b4,qs,qm,B0,reduceIte,a7]
   refine qi (v:=pv1_1) rfl ?_
   simp only [zx,qb,a2h ph1_1,qv,qcg,qa,qu3,qz,B0,reduceIte,a7]
   refine qx (t:=(decide ((b6 v_1.Parts:Int)≤v193.1))) (fun hc200=>?_) (fun hc200=>?_)
   ·rw [iteT hc200] at hF195
    simp only [qq7,qh,qf,f181,qp,qb,a8,a9,b4,q9,qm,B0,reduceIte,a7]
    refine qi (v := .int .i64 v193.1) ((z6 (l9 _ _ _ hS199)).trans rfl) ?_
    simp only [run_build,evp,B0,reduceIte,a7]
    refine qi (v := .agg [.int .i64 6,.int .i64 0,.int .i64 0,.int .i64 v193.1,.int .i64 0,.nil]) rfl ?_
    simp only [f179,zk,B0,reduceIte,a7]
    refine zb (us:=[.int .i64 6,.int .i64 0,.int .i64 0,.int .i64 v193.1,.int .i64 0,.nil]) rfl (cs':=[.int .i64 6,.int .i64 0,.int .i64 0,.int .i64 v193.1,
      .int .i64 0,.nil]) (o6 hS199) hW rfl rfl (nle rfl) rfl (fun h201 hS202=>?_)
    simp only [qa,q8,B0,reduceIte,a7]
    have e203:=qj hF195
    subst e203
    have hk41':=hk41
    dsimp only [jnO] at hk41'
    apply hR44
    have he:=qj hk41'
    subst he
    refine jk (bb:=b5) (oo:=0) (v := .agg [.int .i64 6,.int .i64 0,.int .i64 0,.int .i64 v193.1,.int .i64 0,.nil]) (by simp only [f179,B0,reduceIte,
      a7]) ((zw (l9 _ _ _ hS202)).trans rfl) ?_
    exact ⟨.nil,[],pc1_0,pc1_1,by first | trivial | rfl,a1l,ph1_0,ph1_1,
      ((f0 (f0 (f0 (l6 ((l6 (hS202))))))) : Sep _ lo ([Blk1 pb0 [lst cU8 v193.2.code,.int .i64 v193.2.at_,
      .int .u64 v193.2.seed] 79]++(pc1_0++(pc1_1++(S0)))))⟩
   rw [iteF hc200] at hF195
   simp only [zf,qqm,qh,qf,f178,qp,qb,a8,a9,b4,qs,qm,B0,reduceIte,a7]
   refine qi (v:=pv1_1) rfl ?_
   simp only [f181,qp,qb,a8,a9,b4,q9,qm,B0,reduceIte,a7]
   refine qi (v := .int .i64 v193.1) ((z6 (l9 _ _ _ hS199)).trans rfl) ?_
   obtain ⟨x204,hx205,hF206⟩:=qk hF195
   simp only [jf,B0,reduceIte,a7]
   obtain ⟨b207,hb208⟩:=SlN.isrow ph1_1 (kq hx205)
   refine qi (SlN.ia ph1_1 hb208 hx205) ?_
   obtain ⟨c209,cs210,os211,hv212,hR213,hS214⟩:=SlG.opn (SlN.toG ph1_1 hb208 Partition.RO.len) hx205 jl Partition.RO.len (i5 hS199)
   obtain ⟨v216,c217,v220,c221,hv218,hv222,rfl,rfl⟩:=hR213
   have hS215:=Sep.no2 hS214
   simp only [qm,B0,reduceIte,a7]
   refine qi (v := .agg [v216,v220,.int .i64 x204.Leader,.int .i64 x204.Epoch,.int .i64 x204.Stamp]) ((SlG.lds (o:=0) hv212 rfl hx205 hS215 (nle rfl)).trans rfl) ?_
   simp only [z5,B0,reduceIte,a7]
   refine zt hS215 (fun b224 h225 hS226=>?_)
   simp only [zk,B0,reduceIte,a7]
   refine zb (us:=[v216,v220,.int .i64 x204.Leader,.int .i64 x204.Epoch,.int .i64 x204.Stamp]) rfl (cs':=[v216,v220,.int .i64 x204.Leader,
     .int .i64 x204.Epoch,.int .i64 x204.Stamp]) hS226 hW rfl (qo (n7 hv218) (qo (n7 hv222) (qo rfl (qo rfl (qo rfl zl))))) (nle rfl) rfl
     (fun h228 hS229=>?_)
   simp only [qa,B0,reduceIte,a7]
   refine zq hS229 hW (by simp only [B0,reduceIte,a7]) (fun h230 hS231=>?_)
   obtain ⟨v232,hx233,hF234⟩:=qk hF206
   simp only [zp,qry,qh,qf,f177,qg,f180,za,B0,reduceIte,a7]
   refine kp rfl (kd hW pb0 v193.2 (b6 v_1.Brokers:Int) v232 hx233 (o6 hS231)) ?_
   rintro _ h235 ⟨rfl,hS236⟩
   simp only [f181,qp,qb,a8,a9,b4,q9,zk,B0,reduceIte,a7]
   refine zb (us:=[.int .i64 v232.1]) rfl (cs':=[.int .i64 v17.1,.int .i64 v232.1,.int .i64 0,.int .i64 v193.1,.int .i64 0,
     .nil]) (o6 hS236) hW rfl rfl (nle rfl) rfl (fun h237 hS238=>?_)
   simp only [qa,qrs,qh,qf,f181,qp,qb,a8,a9,b4,q9,qm,B0,reduceIte,a7]
   refine qi (v := .int .i64 v17.1) ((z6 (l9 _ _ _ hS238)).trans rfl) ?_
   simp only [qv,qb,z8,qa,qrx,qz,B0,reduceIte,a7]
   refine qx (t:=(decide (v17.1=6))) (fun hc239=>?_) (fun hc239=>?_)
   ·rw [iteT hc239] at hF234
    simp only [qh,qf,f181,qm,B0,reduceIte,a7]
    refine qi (v := .agg [.int .i64 v17.1,.int .i64 v232.1,.int .i64 0,.int .i64 v193.1,.int .i64 0,.nil]) ((zw (l9 _ _ _ hS238)).trans rfl) ?_
    simp only [f179,zk,B0,reduceIte,a7]
    refine zb (us:=[.int .i64 v17.1,.int .i64 v232.1,.int .i64 0,.int .i64 v193.1,.int .i64 0,.nil]) rfl (cs':=[.int .i64 v17.1,.int .i64 v232.1,.int .i64 0,
      .int .i64 v193.1,.int .i64 0,.nil]) (r5 hS238) hW rfl rfl (nle rfl) rfl (fun h240 hS241=>?_)
    simp only [qa,q8,B0,reduceIte,a7]
    have e242:=qj hF234
    subst e242
    have hk41':=hk41
    dsimp only [jnO] at hk41'
    apply hR44
    obtain ⟨c243,hv244,hS245⟩:=SlG.cls0 (c:=c209) (os:=c217++(c221)) hv212 rfl hx205 jl (Partition.RI (x:=x204) hv218 hv222) (Sep.ni2 (c1:=c217)
      (c2:=c221) (s7 (s7 (s7 hS241))))
    have hv246:=SlG.toN hv244
    have he:=qj hk41'
    subst he
    refine jk (bb:=b5) (oo:=0) (v := .agg [.int .i64 v17.1,.int .i64 v232.1,.int .i64 0,.int .i64 v193.1,.int .i64 0,.nil]) (by simp only [f179,B0,
      reduceIte,a7]) ((zw (l9 _ _ _ (f8 hS245))).trans rfl) ?_
    exact ⟨.nil,[],pc1_0,c243,by first | trivial | rfl,a1l,ph1_0,hv246,
      ((f0 (f0 (l6 (f8 (l6 (f8 hS245)))))) : Sep _ lo ([Blk1 pb0 [lst cU8 v232.2.code,.int .i64 v232.2.at_,
      .int .u64 v232.2.seed] 79]++(pc1_0++(c243++(S0)))))⟩
   rw [iteF hc239] at hF234
   simp only [zf,qwt,qh,qf,qp,qb,a8,a9,b4,qs,qm,B0,reduceIte,a7]
   refine qi (v := .int .i64 x204.Leader) rfl ?_
   simp only [qv,qb,qcg,qg,B0,reduceIte,a7]
   obtain ⟨sv252,hX250,hk251⟩:=qk hF234
   refine zr 4 (fun fr' h'=>fr' 0 = .ptr pb0 0∧fr' 4 = .ptr b5 0∧fr' 6 = .ptr b24 0∧fr' 8 = .ref [v216,v220,.int .i64 x204.Leader,.int .i64 x204.Epoch,
     .int .i64 x204.Stamp] 0∧fr' 109 = .bool sv252.1∧Sep h' lo ([Blk1 pb0 [lst cU8 sv252.2.code,.int .i64 sv252.2.at_,
     .int .u64 sv252.2.seed] 79]++([Blk1 b5 [.int .i64 0,.int .i64 0,.int .i64 0,.int .i64 0,.int .i64 0,.nil] 44]++([Blk1 b24 [.int .i64 v17.1,.int .i64 v232.1,
     .int .i64 0,.int .i64 v193.1,.int .i64 0,.nil] 44]++(c217++(c221++(pc1_0++(c209++(S0))))))))) (fun Q253 hN254=>?_) ?_
   ·simp only [d7,e9]
    simp only [qc (g:=105),B0,reduceIte,a7]
    refine qy (t:=(decide ((0:Int)≤x204.Leader))) (fun hg257=>?_) (fun hg257=>?_)
    ·rw [iteT hg257] at hX250
     obtain ⟨v258,hx259,hF260⟩:=qk hX250
     simp only [hg257,qc (g:=105),qw,f177,qg,za,B0,reduceIte,a7]
     refine kp rfl (qbz hW pb0 v232.2 6 v258 hx259 (f8 hS238)) ?_
     rintro _ h261 ⟨rfl,hS262⟩
     simp only [hg257,qc (g:=105),qw,je,qb,jt,qr,zh,qa,qn,B0,reduceIte,a7]
     have e263:=qj hF260
     subst e263
     exact hN254 _ _ ⟨f177,f179,f181,rfl,rfl,(r5 (r5 (s7 (s7 (s7 (s7 (f0 hS262)))))))⟩
    ·rw [iteF hg257] at hX250
     simp only [hg257,qc (g:=105),zy,qr,qb,zi,qa,qn,B0,reduceIte,a7]
     have e264:=qj hX250
     subst e264
     exact hN254 _ _ ⟨f177,f179,f181,rfl,rfl,(r5 (r5 (o6 (s7 (s7 (s7 (f0 hS238)))))))⟩
   rintro fr265 h266 ⟨f268,f269,f270,f271,f272,hS267⟩
   obtain ⟨s247,s248⟩:=sv252
   dsimp only at *
   unfold qbu at hk251
   simp only [b7,e8]
   simp only [qa,qwa,f272,qz,B0,reduceIte,a7]
   obtain ⟨s273,hX275,hk276⟩:=qk hk251
   refine ue (t:=s247) (fun fr' h'=>fr' 0 = .ptr pb0 0∧fr' 4 = .ptr b5 0∧fr' 6 = .ptr b24 0∧fr' 8 = .ref [v216,v220,.int .i64 x204.Leader,.int .i64 x204.Epoch,
     .int .i64 x204.Stamp] 0∧Sep h' lo ([Blk1 pb0 [lst cU8 s248.code,.int .i64 s248.at_,.int .u64 s248.seed] 79]++([Blk1 b5 [.int .i64 0,.int .i64 0,.int .i64 0,
     .int .i64 0,.int .i64 0,.nil] 44]++([Blk1 b24 [.int .i64 s273.Kind,.int .i64 s273.Broker,.int .i64 s273.Epoch,.int .i64 s273.Part,.int .i64 s273.Stamp,
     .nil] 44]++(c217++(c221++(pc1_0++(c209++(S0))))))))) (fun Q277 hN278 hR279 hE280=>⟨fun hc281=>?_,fun hc281=>?_⟩) ?_
   ·rw [iteT hc281] at hX275
    simp only [qu4,qf,f271,qp,qb,a8,a9,b4,qs,qm,B0,reduceIte,a7]
    refine qi (v := .int .i64 x204.Leader) rfl ?_
    simp only [f270,qp,qb,a8,a9,b4,q9,zk,B0,reduceIte,a7]
    refine zb (us:=[.int .i64 x204.Leader]) rfl (cs':=[.int .i64 v17.1,.int .i64 x204.Leader,.int .i64 0,.int .i64 v193.1,.int .i64 0,
      .nil]) (f0 hS267) hW rfl rfl (nle rfl) rfl (fun h282 hS283=>?_)
    simp only [qa,qn,B0,reduceIte,a7]
    have e284:=qj hX275
    subst e284
    exact hN278 _ _ ⟨f268,f269,f270,f271,(r5 (r5 (o6 (r5 (r5 (r5 (r5 hS283)))))))⟩
   ·rw [iteF hc281] at hX275
    simp only [zf,qn,B0,reduceIte,a7]
    have e285:=qj hX275
    subst e285
    exact hN278 _ _ ⟨f268,f269,f270,f271,(r5 (r5 (r5 (r5 (r5 (r5 (r5 hS267)))))))⟩
   rintro fr286 h287 ⟨f289,f290,f291,f292,hS288⟩
   unfold qbm at hk276
   simp only [qvx,qh,qf,f292,qp,qb,a8,a9,b4,qs,qm,B0,reduceIte,a7]
   refine qi (v := .int .i64 x204.Epoch) rfl ?_
   simp only [f291,qp,qb,a8,a9,b4,q9,zk,B0,reduceIte,a7]
   refine zb (us:=[.int .i64 x204.Epoch]) rfl (cs':=[.int .i64 s273.Kind,.int .i64 s273.Broker,.int .i64 x204.Epoch,.int .i64 s273.Part,.int .i64 s273.Stamp,
     .nil]) (f0 hS288) hW rfl rfl (nle rfl) rfl (fun h293 hS294=>?_)
   simp only [qa,qwz,qh,qf,f292,qp,qb,a8,a9,b4,qs,qm,B0,reduceIte,a7]
   refine qi (v := .int .i64 x204.Stamp) rfl ?_
   simp only [f291,qp,qb,a8,a9,b4,q9,zk,B0,reduceIte,a7]
   refine zb (us:=[.int .i64 x204.Stamp]) rfl (cs':=[.int .i64 s273.Kind,.int .i64 s273.Broker,.int .i64 x204.Epoch,.int .i64 s273.Part,.int .i64 x204.Stamp,
     .nil]) hS294 hW rfl rfl (nle rfl) rfl (fun h295 hS296=>?_)
   obtain ⟨v297,hx298,hF299⟩:=qk hk276
   simp only [qa,qw6,qh,qf,f289,qg,za,B0,reduceIte,a7]
   refine kp rfl (qbz hW pb0 s248 8 v297 hx298 (f8 hS296)) ?_
   rintro _ h300 ⟨rfl,hS301⟩
   simp only [qa,qxi,qz,B0,reduceIte,a7]
   obtain ⟨s302,hX304,hk305⟩:=qk hF299
   refine ue (t:=v297.1) (fun fr' h'=>fr' 0 = .ptr pb0 0∧fr' 4 = .ptr b5 0∧fr' 6 = .ptr b24 0∧fr' 8 = .ref [v216,v220,.int .i64 x204.Leader,
     .int .i64 x204.Epoch,.int .i64 x204.Stamp] 0∧Sep h' lo ([Blk1 pb0 [lst cU8 v297.2.code,.int .i64 v297.2.at_,.int .u64 v297.2.seed] 79]++([Blk1 b5 [.int .i64 0,
     .int .i64 0,.int .i64 0,.int .i64 0,.int .i64 0,.nil] 44]++([Blk1 b24 [.int .i64 s302.Kind,.int .i64 s302.Broker,.int .i64 s302.Epoch,.int .i64 s302.Part,
     .int .i64 s302.Stamp,.nil] 44]++(c217++(c221++(pc1_0++(c209++(S0))))))))) (fun Q306 hN307 hR308 hE309=>⟨fun hc310=>?_,fun hc310=>?_⟩) ?_
   ·rw [iteT hc310] at hX304
    simp only [qux,qf,f291,qp,qb,a8,a9,b4,q9,qm,B0,reduceIte,a7]
    refine qi (v := .int .i64 x204.Epoch) ((z6 (l9 _ _ _ (f8 hS301))).trans rfl) ?_
    simp only [qv,qb,qal,f291,qp,a8,a9,b4,q9,zk,B0,reduceIte,a7]
    refine zb (us:=[.int .i64 (d8 .i64 (x204.Epoch+1))]) rfl (cs':=[.int .i64 s273.Kind,.int .i64 s273.Broker,
      .int .i64 (d8 .i64 (x204.Epoch+1)),.int .i64 s273.Part,.int .i64 x204.Stamp,.nil]) (f8 hS301) hW rfl rfl (nle rfl) rfl (fun h311 hS312=>?_)
    simp only [qa,qn,B0,reduceIte,a7]
    have e313:=qj hX304
    subst e313
    exact hN307 _ _ ⟨f289,f290,f291,f292,(r5 (r5 (o6 (r5 (r5 (r5 (r5 hS312)))))))⟩
   ·rw [iteF hc310] at hX304
    simp only [zf,qn,B0,reduceIte,a7]
    have e314:=qj hX304
    subst e314
    exact hN307 _ _ ⟨f289,f290,f291,f292,(r5 (r5 (s7 (r5 (r5 (r5 (r5 hS301)))))))⟩
   rintro fr315 h316 ⟨f318,f319,f320,f321,hS317⟩
   unfold qbs at hk305
   obtain ⟨v322,hx323,hF324⟩:=qk hk305
   simp only [qrh,qh,qf,f318,qg,za,B0,reduceIte,a7]
   refine kp rfl (qbz hW pb0 v297.2 8 v322 hx323 hS317) ?_
   rintro _ h325 ⟨rfl,hS326⟩
   simp only [qa,qxj,qz,B0,reduceIte,a7]
   obtain ⟨s327,hX329,hk330⟩:=qk hF324
   refine ue (t:=v322.1) (fun fr' h'=>fr' 0 = .ptr pb0 0∧fr' 4 = .ptr b5 0∧fr' 6 = .ptr b24 0∧fr' 8 = .ref [v216,v220,.int .i64 x204.Leader,
     .int .i64 x204.Epoch,.int .i64 x204.Stamp] 0∧Sep h' lo ([Blk1 pb0 [lst cU8 v322.2.code,.int .i64 v322.2.at_,.int .u64 v322.2.seed] 79]++([Blk1 b5 [.int .i64 0,
     .int .i64 0,.int .i64 0,.int .i64 0,.int .i64 0,.nil] 44]++([Blk1 b24 [.int .i64 s327.Kind,.int .i64 s327.Broker,.int .i64 s327.Epoch,.int .i64 s327.Part,
     .int .i64 s327.Stamp,.nil] 44]++(c217++(c221++(pc1_0++(c209++(S0))))))))) (fun Q331 hN332 hR333 hE334=>⟨fun hc335=>?_,fun hc335=>?_⟩) ?_
   ·rw [iteT hc335] at hX329
    simp only [qvy,qf,f320,qp,qb,a8,a9,b4,q9,qm,B0,reduceIte,a7]
    refine qi (v := .int .i64 s302.Stamp) ((z6 (l9 _ _ _ (f0 hS326))).trans rfl) ?_
    simp only [qv,qb,qal,f320,qp,a8,a9,b4,q9,zk,B0,reduceIte,a7]
    refine zb (us:=[.int .i64 (d8 .i64 (s302.Stamp+1))]) rfl (cs':=[.int .i64 s302.Kind,.int .i64 s302.Broker,.int .i64 s302.Epoch,
      .int .i64 s302.Part,.int .i64 (d8 .i64 (s302.Stamp+1)),.nil]) (f0 hS326) hW rfl rfl (nle rfl) rfl (fun h336 hS337=>?_)
    simp only [qa,qn,B0,reduceIte,a7]
    have e338:=qj hX329
    subst e338
    exact hN332 _ _ ⟨f318,f319,f320,f321,(r5 (r5 (o6 (r5 (r5 (r5 (r5 hS337)))))))⟩
   ·rw [iteF hc335] at hX329
    simp only [zf,qn,B0,reduceIte,a7]
    have e339:=qj hX329
    subst e339
    exact hN332 _ _ ⟨f318,f319,f320,f321,(r5 (r5 (r5 (r5 (r5 (r5 (r5 hS326)))))))⟩
   rintro fr340 h341 ⟨f343,f344,f345,f346,hS342⟩
   unfold u0 at hk330
   simp only [qte,qh,qf,f346,qp,qb,a8,a9,b4,qs,qm,B0,reduceIte,a7]
   refine qi (v:=v216) rfl ?_
   simp only [zx,qb,SlF.plen hv218,qg,qa,B0,reduceIte,a7]
   obtain ⟨oc361,hX363,hk364⟩:=jo hk330
   simp only [qwn]
   refine qa8 (σ:=L1Cur × Command) (fun i359 s440=>u5 x204 i359 s440.1 s440.2) (fun s fr' h'=>∃ v356 c357,
     fr' 0 = .ptr pb0 0∧fr' 4 = .ptr b5 0∧fr' 6 = .ptr b24 0∧fr' 8 = .ref [v216,v220,.int .i64 x204.Leader,.int .i64 x204.Epoch,
     .int .i64 x204.Stamp] 0∧fr' 132=v216∧SlF cI 1 3 v356 s.2.InStep c357∧Sep h' lo ([Blk1 pb0 [lst cU8 s.1.code,.int .i64 s.1.at_,
     .int .u64 s.1.seed] 79]++([Blk1 b5 [.int .i64 0,.int .i64 0,.int .i64 0,.int .i64 0,.int .i64 0,.nil] 44]++([Blk1 b24 [.int .i64 s.2.Kind,.int .i64 s.2.Broker,
     .int .i64 s.2.Epoch,.int .i64 s.2.Part,.int .i64 s.2.Stamp,v356] 44]++(c217++(c221++(pc1_0++(c209++(c357++(S0)))))))))) hX363 ⟨.nil,[],f343,f344,f345,
     f346,rfl,a1l,((r5 (r5 (r5 (r5 (r5 (r5 (r5 hS342))))))) : Sep _ lo ([Blk1 pb0 [lst cU8 v322.2.code,.int .i64 v322.2.at_,
     .int .u64 v322.2.seed] 79]++([Blk1 b5 [.int .i64 0,.int .i64 0,.int .i64 0,.int .i64 0,.int .i64 0,.nil] 44]++([Blk1 b24 [.int .i64 s327.Kind,
     .int .i64 s327.Broker,.int .i64 s327.Epoch,.int .i64 s327.Part,.int .i64 s327.Stamp,
     .nil] 44]++(c217++(c221++(pc1_0++(c209++(S0)))))))))⟩ (by simp only [B0,reduceIte,a7]) (by simp only [B0,reduceIte,
     a7]) (fun _ _ _ h=>h) rfl rfl (fun _ _ _ _ h=>h) (fun _ _ _ _ h=>h) (fun _ _ _ _ h=>h) (by decide) ?_ ?_
   ·rintro i359 ⟨s353,s354⟩ fr373 h374 hx381 ⟨v356,c357,f376,f377,f378,f379,f380,hv358,hS375⟩ f382 f383 oc362 hF365 hr366 Q367 hN368 hB372 hK369 hR370 hE371
    dsimp only at *
    unfold u5 at hF365
    obtain ⟨x384,hx385,hF386⟩:=qk hF365
    simp only [qsx,qh,qf,f380,f382,jf,B0,reduceIte,a7]
    obtain ⟨b387,hb388⟩:=a1t hv218 (kq hx385)
    refine qi (SlF.ia hv218 hb388 hx385) ?_
    simp only [qm,B0,reduceIte,a7]
    refine qi (v := .int .i64 x384) ((SlF.ld (o:=0) hv218 (i5 hS375) hb388 hx385 (fun _=>rfl) (nle rfl)).trans rfl) ?_
    simp only [qg,qa,qrr,qh,qf,f379,qp,qb,a8,a9,b4,qs,qm,B0,reduceIte,a7]
    refine qi (v := .int .i64 x204.Leader) rfl ?_
    simp only [qv,qb,z8,qg,B0,reduceIte,a7]
    obtain ⟨sv394,hX392,hk393⟩:=qk hF386
    refine zr 3 (fun fr' h'=>fr' 0 = .ptr pb0 0∧fr' 4 = .ptr b5 0∧fr' 6 = .ptr b24 0∧fr' 8 = .ref [v216,v220,.int .i64 x204.Leader,.int .i64 x204.Epoch,
      .int .i64 x204.Stamp] 0∧fr' 10 = .int .i64 x384∧fr' 132=v216∧fr' 133 = .int .i64 (b6 x204.Homes:Int)∧fr' 134 = .int .i64
      (i359:Int)∧fr' 145 = .bool sv394.1∧Sep h' lo ([Blk1 pb0 [lst cU8 sv394.2.code,.int .i64 sv394.2.at_,.int .u64 sv394.2.seed] 79]++([Blk1 b5 [.int .i64 0,
      .int .i64 0,.int .i64 0,.int .i64 0,.int .i64 0,.nil] 44]++([Blk1 b24 [.int .i64 s354.Kind,.int .i64 s354.Broker,.int .i64 s354.Epoch,.int .i64 s354.Part,
      .int .i64 s354.Stamp,v356] 44]++(c217++(c221++(pc1_0++(c209++(c357++(S0)))))))))) (fun Q395 hN396=>?_) ?_
    ·simp only [d7,e9]
     simp only [qc (g:=142),B0,reduceIte,a7]
     refine qy (t:=(decide (x384=x204.Leader))) (fun hg399=>?_) (fun hg399=>?_)
     ·rw [iteT hg399] at hX392
      simp only [hg399,qc (g:=142),zv,qr,qb,zh,qa,qn,B0,reduceIte,a7]
      have e400:=qj hX392
      subst e400
      exact hN396 _ _ ⟨f376,f377,f378,f379,rfl,f380,f383,f382,rfl,(a1i (a1i (a1i (a1i (a1i (a1i (a1i (a1i hS375))))))))⟩
     ·rw [iteF hg399] at hX392
      obtain ⟨v401,hx402,hF403⟩:=qk hX392
      simp only [hg399,qc (g:=142),qq,f376,qg,za,B0,reduceIte,a7]
      refine kp rfl (qbz hW pb0 s353 2 v401 hx402 hS375) ?_
      rintro _ h404 ⟨rfl,hS405⟩
      simp only [hg399,qr,qb,zi,qa,qn,B0,reduceIte,a7]
      have e406:=qj hF403
      subst e406
      exact hN396 _ _ ⟨f376,f377,f378,f379,rfl,f380,f383,f382,rfl,(a1i (a1i (a1i (a1i (a1i (a1i (a1i (a1i hS405))))))))⟩
    rintro fr407 h408 ⟨f410,f411,f412,f413,f414,f415,f416,f417,f418,hS409⟩
    obtain ⟨s389,s390⟩:=sv394
    dsimp only at *
    unfold qbo at hk393
    simp only [b7,e8]
    simp only [qa,qsn,f418,qz,B0,reduceIte,a7]
    refine qx (t:=s389) (fun hc419=>?_) (fun hc419=>?_)
    ·rw [iteT hc419] at hk393
     simp only [qwi,qf,f412,qp,qb,a8,a9,b4,q9,qm,B0,reduceIte,a7]
     refine qi (v:=v356) ((z6 (l9 _ _ _ (f0 hS409))).trans rfl) ?_
     simp only [f414,qg,j0,evp,B0,reduceIte,a7]
     refine ju (n:=1) (f:=cI) [x384] hS409 rfl rfl (fun v420 c421 h422 hv423 hS424=>?_)
     simp only [wz,B0,reduceIte,a7]
     obtain ⟨l426,hx427,hF428⟩:=qk hk393
     refine yx (f:=cI) hv358 (Sep.m8 hS424) hW (fun _=>rfl) (fun _=>rfl) (SlF.first hv423 hS424 (fun _=>rfl)) hx427 (fun v429 c430 h431 hv432 hS433=>?_)
     simp only [f412,qp,qb,a8,a9,b4,q9,zk,B0,reduceIte,a7]
     refine zb (us:=[v429]) (kw (n7 hv432)) (cs':=[.int .i64 s354.Kind,.int .i64 s354.Broker,.int .i64 s354.Epoch,.int .i64 s354.Part,
       .int .i64 s354.Stamp,v429]) (o6 hS433) hW rfl (qo (n7 hv432) zl) (nle rfl) rfl (fun h435 hS436=>?_)
     simp only [qa,qn,B0,reduceIte,a7]
     have e437:=qj hF428
     exact hN368 _ _ _ e437.symm ⟨v429,c430,f410,f411,f412,f413,f415,hv432,
       (a1i (a1i (s7 (a1i (a1i (a1i (a1i (f8 (l6 (f0 hS436))))))))))⟩ (f417) (f416)
    rw [iteF hc419] at hk393
    simp only [zf,qn,B0,reduceIte,a7]
    have e438:=qj hk393
    exact hN368 _ _ _ e438.symm ⟨v356,c357,f410,f411,f412,f413,f415,hv358,(a1i (a1i (a1i (a1i (a1i (a1i (a1i (a1i hS409))))))))⟩ (f417) (f416)
   rintro ⟨s441,s442⟩ fr447 h448 rfl ⟨v444,c445,f450,f451,f452,f453,f454,hv446,hS449⟩
   dsimp only [jnO] at hk364
   dsimp only at *
   unfold qf6 at hk364
   simp only [qn,B0,reduceIte,a7]
   obtain ⟨c455,hv456,hS457⟩:=SlG.cls0 (c:=c209) (os:=c217++(c221)) hv212 rfl hx205 jl (Partition.RI (x:=x204) hv218 hv222) (Sep.ni2 (c1:=c217) (c2:=c221)
     (r5 (o6 (o6 hS449))))
   have hv458:=SlG.toN hv456
   have e459:=qj hk364
   exact hN43 _ _ ⟨_,e459.symm,v444,c445,c455,f450,f451,f452,hv446,hv458,(s7 (s7 (s7 (s7 (f8 (s7 hS457))))))⟩
  rw [iteF hc183] at hk166
  simp only [zf,qn,B0,reduceIte,a7]
  have e465:=qj hk166
  exact hN43 _ _ ⟨_,e465.symm,.nil,[],pc1_1,f177,f179,f181,a1l,ph1_1,
    ((o6 (o6 (o6 (f0 (f0 hS176))))) : Sep _ lo ([Blk1 pb0 [lst cU8 v17.2.1.code,.int .i64 v17.2.1.at_,
    .int .u64 v17.2.1.seed] 79]++([Blk1 b5 [.int .i64 0,.int .i64 0,.int .i64 0,.int .i64 0,.int .i64 0,.nil] 44]++([Blk1 b24 [.int .i64 v17.1,.int .i64 0,
    .int .i64 0,.int .i64 0,.int .i64 0,.nil] 44]++(pc1_0++(pc1_1++(S0)))))))⟩
 rintro fr467 h468 ⟨⟨s30,s31,s36⟩,rfl,v33,c34,c37,f470,f471,f472,hv35,hv38,hS469⟩
 dsimp only [jnO] at hk41
 dsimp only at *
 unfold yo at hk41
 obtain ⟨v473,hx474,hF475⟩:=qk hk41
 simp only [ki,qs1,qh,qf,f470,qg,za,B0,reduceIte,a7]
 refine kp rfl (qbz hW pb0 s30 60 v473 hx474 hS469) ?_
 rintro _ h476 ⟨rfl,hS477⟩
 simp only [qa,qw8,qz,B0,reduceIte,a7]
 refine qx (t:=v473.1) (fun hc478=>?_) (fun hc478=>?_)
 ·rw [iteT hc478] at hF475
  obtain ⟨v479,hx480,hF481⟩:=qk hF475
  simp only [qv9,qf,f470,qg,za,B0,reduceIte,a7]
  refine kp rfl (kd hW pb0 v473.2 8 v479 hx480 hS477) ?_
  rintro _ h482 ⟨rfl,hS483⟩
  obtain ⟨v484,hx485,hF486⟩:=qk hF481
  simp only [f470,qg,za,B0,reduceIte,a7]
  refine kp rfl (kd hW pb0 v479.2 8 v484 hx485 hS483) ?_
  rintro _ h487 ⟨rfl,hS488⟩
  obtain ⟨v489,hx490,hF491⟩:=qk hF486
  simp only [qv,qb,qe1,f470,qg,za,B0,reduceIte,a7]
  refine kp rfl (kd hW pb0 v484.2 3 v489 hx490 hS488) ?_
  rintro _ h492 ⟨rfl,hS493⟩
  obtain ⟨v494,hx495,hF496⟩:=qk hF491
  simp only [f470,qg,za,B0,reduceIte,a7]
  refine kp rfl (kd hW pb0 v489.2 8 v494 hx495 hS493) ?_
  rintro _ h497 ⟨rfl,hS498⟩
  simp only [qv,qb,qe1,j0,evp,B0,reduceIte,a7]
  refine ju (n:=1) (f:=cI) [(d8 .i64 (v494.1 - 1))] hS498 rfl rfl (fun v499 c500 h501 hv502 hS503=>?_)
  simp only [run_build,evp,B0,reduceIte,a7]
  refine qi (v := .agg [.int .i64 v479.1,.int .i64 (d8 .i64 (v484.1 - 1)),.int .i64 0,.int .i64 v489.1,.int .i64 0,
    v499]) (qdz (qat (us:=[.int .i64 v479.1]) (vs:=[.int .i64 v479.1,.int .i64 0,.int .i64 0,.int .i64 0,.int .i64 0,
    .nil]) rfl rfl (nle rfl) rfl rfl (qat (us:=[.int .i64 (d8 .i64 (v484.1 - 1))]) (vs:=[.int .i64 v479.1,.int .i64 (d8 .i64 (v484.1 - 1)),
    .int .i64 0,.int .i64 0,.int .i64 0,.nil]) rfl rfl (nle rfl) rfl rfl (qat (us:=[.int .i64 v489.1]) (vs:=[.int .i64 v479.1,
    .int .i64 (d8 .i64 (v484.1 - 1)),.int .i64 0,.int .i64 v489.1,.int .i64 0,.nil]) rfl rfl (nle rfl) rfl rfl (qat (us:=[v499]) (vs:=[.int .i64 v479.1,
    .int .i64 (d8 .i64 (v484.1 - 1)),.int .i64 0,.int .i64 v489.1,.int .i64 0,
    v499]) (kw (n7 hv502)) rfl (nle rfl) (qo (n7 hv502) zl) rfl qfu))))) ?_
  simp only [f472,zk,B0,reduceIte,a7]
  refine zb (us:=[.int .i64 v479.1,.int .i64 (d8 .i64 (v484.1 - 1)),.int .i64 0,.int .i64 v489.1,.int .i64 0,v499]) rfl (cs':=[.int .i64 v479.1,
    .int .i64 (d8 .i64 (v484.1 - 1)),.int .i64 0,.int .i64 v489.1,.int .i64 0,
    v499]) (i5 hS503) hW rfl (qo rfl (qo rfl (qo rfl (qo rfl (qo rfl (qo (n7 hv502) zl)))))) (nle rfl) rfl (fun h505 hS506=>?_)
  simp only [qa,qh,qf,f472,qm,B0,reduceIte,a7]
  refine qi (v := .agg [.int .i64 v479.1,.int .i64 (d8 .i64 (v484.1 - 1)),.int .i64 0,.int .i64 v489.1,.int .i64 0,
    v499]) ((zw (l9 _ _ _ hS506)).trans rfl) ?_
  simp only [f471,zk,B0,reduceIte,a7]
  refine zb (us:=[.int .i64 v479.1,.int .i64 (d8 .i64 (v484.1 - 1)),.int .i64 0,.int .i64 v489.1,.int .i64 0,v499]) rfl (cs':=[.int .i64 v479.1,
    .int .i64 (d8 .i64 (v484.1 - 1)),.int .i64 0,.int .i64 v489.1,.int .i64 0,
    v499]) (i5 hS506) hW rfl (qo rfl (qo rfl (qo rfl (qo rfl (qo rfl (qo (n7 hv502) zl)))))) (nle rfl) rfl (fun h507 hS508=>?_)
  simp only [qa,q8,B0,reduceIte,a7]
  have he:=qj hF496
  subst he
  refine jk (bb:=b5) (oo:=0) (v := .agg [.int .i64 v479.1,.int .i64 (d8 .i64 (v484.1 - 1)),.int .i64 0,.int .i64 v489.1,.int .i64 0,
    v499]) (by simp only [f471,B0,reduceIte,a7]) ((zw (l9 _ _ _ hS508)).trans rfl) ?_
  exact ⟨v499,c500,pc1_0,c37,by first | trivial | rfl,hv502,ph1_0,hv38,(i5 (i5 (i5 (i5 (l6 (o6 (l6 ((l6 (hS508))))))))))⟩
 rw [iteF hc478] at hF475
 simp only [zf,qh,qf,f472,qm,B0,reduceIte,a7]
 refine qi (v := .agg [.int .i64 s31.Kind,.int .i64 s31.Broker,.int .i64 s31.Epoch,.int .i64 s31.Part,.int .i64 s31.Stamp,
   v33]) ((zw (l9 _ _ _ (f0 hS477))).trans rfl) ?_
 simp only [f471,zk,B0,reduceIte,a7]
 refine zb (us:=[.int .i64 s31.Kind,.int .i64 s31.Broker,.int .i64 s31.Epoch,.int .i64 s31.Part,.int .i64 s31.Stamp,v33]) rfl (cs':=[.int .i64 s31.Kind,
   .int .i64 s31.Broker,.int .i64 s31.Epoch,.int .i64 s31.Part,.int .i64 s31.Stamp,
   v33]) (f8 hS477) hW rfl (qo rfl (qo rfl (qo rfl (qo rfl (qo rfl (qo (n7 hv35) zl)))))) (nle rfl) rfl (fun h509 hS510=>?_)
 simp only [qa,q8,B0,reduceIte,a7]
 have he:=qj hF475
 subst he
 refine jk (bb:=b5) (oo:=0) (v := .agg [.int .i64 s31.Kind,.int .i64 s31.Broker,.int .i64 s31.Epoch,.int .i64 s31.Part,.int .i64 s31.Stamp,
   v33]) (by simp only [f471,B0,reduceIte,a7]) ((zw (l9 _ _ _ hS510)).trans rfl) ?_
 exact ⟨v33,c34,pc1_0,c37,by first | trivial | rfl,hv35,ph1_0,hv38,(i5 (f0 (f0 (f0 (l6 (f8 (l6 (hS510))))))))⟩
end Go.Proofs.Ytjloihcijdcpeaa.X
