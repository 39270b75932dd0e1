/- The functions' code comes to what the plain functions say (5). -/
import Derived.Test.YtjloihcijdcpeaaXCH4
set_option linter.unusedVariables false
set_option linter.unusedSimpArgs false
set_option maxRecDepth 100000
namespace Go.Proofs.Ytjloihcijdcpeaa.X
open Go
open Nat (reduceEqDiff)
theorem qi2 {W:Nat→Bool}{h:Heap}{lo:Nat→Prop}{S0:List Obj} (hW:∀ b,
  lo b→W b=true) (pb0:Nat) (v_0:Control) (pv0_0:XV) (pc0_0:List Obj) (ph0_0:SlF qe 3 86 pv0_0 v_0.Brokers pc0_0) (pv0_1:XV) (pc0_1:List Obj)
  (ph0_1:SlN Partition.R 5 39 pv0_1 v_0.Parts pc0_1) (v_1:Command) (r:Int × Control) (hF:qa1 v_0 v_1=some r) (hS:Sep h lo ([Blk1 pb0 [pv0_0,pv0_1,
  .int .i64 v_0.Next] 29]++(pc0_0++(pc0_1++(S0))))) : Ret E W 77 [.ptr pb0 0,.agg [.int .i64 v_1.Kind,.int .i64 v_1.Broker,.int .i64 v_1.Epoch,.int .i64 v_1.Part,
  .int .i64 v_1.Stamp,lst cI v_1.InStep]] h (fun v h'=>∃ ic0_0 iv0_1 ic0_1,
  v = .int .i64 r.1∧SlF qe 3 86 pv0_0 r.2.Brokers ic0_0∧SlN Partition.R 5 39 iv0_1 r.2.Parts ic0_1∧Sep h' lo ([Blk1 pb0 [pv0_0,iv0_1,
  .int .i64 r.2.Next] 29]++(ic0_0++(ic0_1++(S0))))):=by
 refine Ret.of (fn:=x77) rfl (Run.of ?_)
 unfold qa1 at hF
 have zf0:zj [.ptr pb0 0,.agg [.int .i64 v_1.Kind,.int .i64 v_1.Broker,.int .i64 v_1.Epoch,.int .i64 v_1.Part,.int .i64 v_1.Stamp,
   lst cI v_1.InStep]] 0 = .ptr pb0 0:=rfl
 have zf1:zj [.ptr pb0 0,.agg [.int .i64 v_1.Kind,.int .i64 v_1.Broker,.int .i64 v_1.Epoch,.int .i64 v_1.Part,.int .i64 v_1.Stamp,
   lst cI v_1.InStep]] 1 = .agg [.int .i64 v_1.Kind,.int .i64 v_1.Broker,.int .i64 v_1.Epoch,.int .i64 v_1.Part,.int .i64 v_1.Stamp,lst cI v_1.InStep]:=rfl
 generalize zj [.ptr pb0 0,.agg [.int .i64 v_1.Kind,.int .i64 v_1.Broker,.int .i64 v_1.Epoch,.int .i64 v_1.Part,.int .i64 v_1.Stamp,lst cI v_1.InStep]]=fr0 at zf0 zf1 ⊢
 simp only [x77,qh,qf,ju,zf1,B0,reduceIte,reduceEqDiff]
 refine je (cs:=[.int .i64 v_1.Kind,.int .i64 v_1.Broker,.int .i64 v_1.Epoch,.int .i64 v_1.Part,.int .i64 v_1.Stamp,
   lst cI v_1.InStep]) hS rfl rfl rfl (fun b1 h2 hS3=>?_)
 simp only [qg,qa,B0,reduceIte,reduceEqDiff]
 refine zw hS3 hW (by simp only [B0,reduceIte,reduceEqDiff]) (fun h5 hS6=>?_)
 simp only [zv,qsl,qh,jo,zf0,jl,qt,k7,zz,z8,Nat.reduceAdd,Nat.zero_add,Nat.add_zero,q9,z2,B0,reduceIte,
   reduceEqDiff]
 refine zd (v:=pv0_0) ((z5 (Sep.bk _ _ _ hS6)).trans rfl) ?_
 simp only [z8,qt,Nat.reduceAdd,Nat.zero_add,Nat.add_zero,qq,z2,B0,reduceIte,reduceEqDiff]
 refine zd (v := .int .i64 v_1.Broker) rfl ?_
 obtain ⟨x7,hx8,hF9⟩:=qm hF
 simp only [qam,B0,reduceIte,reduceEqDiff]
 obtain ⟨b10,hb11⟩:=SlF.isrow ph0_0 (k8 hx8)
 refine zd (SlF.ia ph0_0 hb11 hx8) ?_
 simp only [jl,qt,zm,qrh,qh,qf,qo,qb,Nat.reduceAdd,Nat.zero_add,Nat.add_zero,qq,ql,B0,reduceIte,reduceEqDiff]
 refine qi (v := .int .i64 v_1.Kind) rfl ?_
 simp only [qa,qul,wh,qtf,qh,qf,qv,qb,z4,qg,qqo,qy,B0,reduceIte,reduceEqDiff]
 refine qw (t:=(decide (v_1.Kind=1))) (fun hc12=>?_) (fun hc12=>?_)
 ·rw [iteT hc12] at hF9
  simp only [q2t,qh,qf,zf0,qg,kg,qb,zz,qo,Nat.reduceAdd,Nat.zero_add,Nat.add_zero,q9,ql,B0,reduceIte,reduceEqDiff]
  refine qi (v := .int .i64 v_0.Next) ((z5 (Sep.bk _ _ _ hS6)).trans rfl) ?_
  simp only [qv,qb,z4,qa,qy,B0,reduceIte,reduceEqDiff]
  refine qw (t:=(decide (v_0.Next=1000))) (fun hc13=>?_) (fun hc13=>?_)
  ·rw [iteT hc13] at hF9
   simp only [qh,qf,qg,qa,q8,B0,reduceIte,reduceEqDiff]
   have he:=qj hF9
   subst he
   simp only [zc,B0,reduceIte,reduceEqDiff]
   exact ⟨pc0_0,pv0_1,pc0_1,by first | trivial | rfl,ph0_0,ph0_1,(Sep.m2 (Sep.m2 (Sep.m2 hS6)))⟩
  rw [iteF hc13] at hF9
  simp only [ze,qxt,qh,qf,qg,zf0,kg,qb,zz,qo,Nat.reduceAdd,Nat.zero_add,Nat.add_zero,q9,ql,B0,reduceIte,
    reduceEqDiff]
  refine qi (v := .int .i64 v_0.Next) ((z5 (Sep.bk _ _ _ hS6)).trans rfl) ?_
  simp only [kg,qb,zz,qo,Nat.reduceAdd,Nat.zero_add,Nat.add_zero,q9,zl,B0,reduceIte,reduceEqDiff]
  refine qds (f:=qe) (x':=(Broker.mk v_0.Next x7.Left x7.Fenced)) (o:=0) ph0_0 (Sep.m1 hS6) hW hb11 hx8 (fun _=>rfl) rfl rfl (nle rfl) rfl
    (fun c16 h14 hv17 hS15=>?_)
  have hx18:=ym (x':=(Broker.mk v_0.Next x7.Left x7.Fenced)) hx8
  simp only [qa,qx8,qh,qf,qg,kg,qb,zz,qo,Nat.reduceAdd,Nat.zero_add,Nat.add_zero,q9,zl,B0,reduceIte,
    reduceEqDiff]
  refine qds (f:=qe) (x':=(Broker.mk v_0.Next 9 x7.Fenced)) (o:=1) hv17 hS15 hW hb11 hx18 (fun _=>rfl) rfl rfl (nle rfl) rfl (fun c21 h19 hv22 hS20=>?_)
  rw [List.set_set] at hv22
  have hx23:=ym (x':=(Broker.mk v_0.Next 9 x7.Fenced)) hx8
  simp only [qa,q3q,qf,zf0,qg,kg,qb,zz,qo,Nat.reduceAdd,Nat.zero_add,Nat.add_zero,q9,ql,B0,reduceIte,
    reduceEqDiff]
  refine qi (v := .int .i64 v_0.Next) ((z5 (Sep.bk _ _ _ (Sep.m1 hS20))).trans rfl) ?_
  simp only [qv,qb,qaq,kg,zz,qo,Nat.reduceAdd,Nat.zero_add,Nat.add_zero,q9,zl,B0,reduceIte,reduceEqDiff]
  refine zf (us:=[.int .i64 (IntKind.wrap .i64 (v_0.Next+1))]) rfl (cs':=[pv0_0,pv0_1,
    .int .i64 (IntKind.wrap .i64 (v_0.Next+1))]) (Sep.m1 hS20) hW rfl rfl (nle rfl) rfl (fun h24 hS25=>?_)
  simp only [qa,xd,qh,qf,qg,q8,B0,reduceIte,reduceEqDiff]
  have he:=qj hF9
  subst he
  simp only [zc,B0,reduceIte,reduceEqDiff]
  exact ⟨c21,pv0_1,pc0_1,by first | trivial | rfl,hv22,ph0_1,(Sep.m2 (Sep.m2 (Sep.m2 hS25)))⟩
 rw [iteF hc12] at hF9
 simp only [qto,qh,qf,qv,qb,z4,qg,qa,qq4,qy,B0,reduceIte,reduceEqDiff]
 refine qw (t:=(decide (v_1.Kind=2))) (fun hc26=>?_) (fun hc26=>?_)
 ·rw [iteT hc26] at hF9
  simp only [qxo,qh,qf,qg,kg,qb,zz,qo,Nat.reduceAdd,Nat.zero_add,Nat.add_zero,q9,ql,B0,reduceIte,reduceEqDiff]
  refine qi (v := .int .i64 x7.Epoch) ((SlF.ld (o:=0) ph0_0 (Sep.m1 hS6) hb11 hx8 (fun _=>rfl) (nle rfl)).trans rfl) ?_
  simp only [qv,qb,z4,qa,qy,B0,reduceIte,reduceEqDiff]
  refine qw (t:=(decide (x7.Epoch=0))) (fun hc27=>?_) (fun hc27=>?_)
  ·rw [iteT hc27] at hF9
   simp only [qh,qf,qg,qa,q8,B0,reduceIte,reduceEqDiff]
   have he:=qj hF9
   subst he
   simp only [zc,B0,reduceIte,reduceEqDiff]
   exact ⟨pc0_0,pv0_1,pc0_1,by first | trivial | rfl,ph0_0,ph0_1,(Sep.m2 (Sep.m2 (Sep.m2 hS6)))⟩
  rw [iteF hc27] at hF9
  simp only [ze,q18,qh,jo,jl,qt,k7,zz,z8,Nat.reduceAdd,Nat.zero_add,Nat.add_zero,q9,z2,B0,reduceIte,
    reduceEqDiff]
  refine zd (v := .int .i64 x7.Epoch) ((SlF.ld (o:=0) ph0_0 (Sep.m1 hS6) hb11 hx8 (fun _=>rfl) (nle rfl)).trans rfl) ?_
  simp only [z8,qt,Nat.reduceAdd,Nat.zero_add,Nat.add_zero,qq,z2,B0,reduceIte,reduceEqDiff]
  refine zd (v := .int .i64 v_1.Epoch) rfl ?_
  simp only [u3,qt,ue,zm,qy,B0,reduceIte,reduceEqDiff]
  refine qw (t:=(decide (x7.Epoch≠v_1.Epoch))) (fun hc28=>?_) (fun hc28=>?_)
  ·rw [iteT hc28] at hF9
   simp only [qh,qf,qg,qa,q8,B0,reduceIte,reduceEqDiff]
   have he:=qj hF9
   subst he
   simp only [zc,B0,reduceIte,reduceEqDiff]
   exact ⟨pc0_0,pv0_1,pc0_1,by first | trivial | rfl,ph0_0,ph0_1,(Sep.m2 (Sep.m2 (Sep.m2 hS6)))⟩
  rw [iteF hc28] at hF9
  simp only [ze,qx9,qf,qg,kg,qb,zz,qo,Nat.reduceAdd,Nat.zero_add,Nat.add_zero,q9,zl,B0,reduceIte,reduceEqDiff]
  refine qds (f:=qe) (x':=(Broker.mk x7.Epoch 9 x7.Fenced)) (o:=1) ph0_0 (Sep.m1 hS6) hW hb11 hx8 (fun _=>rfl) rfl rfl (nle rfl) rfl
    (fun c31 h29 hv32 hS30=>?_)
  have hx33:=ym (x':=(Broker.mk x7.Epoch 9 x7.Fenced)) hx8
  simp only [qa,xd,qh,qf,qg,q8,B0,reduceIte,reduceEqDiff]
  have he:=qj hF9
  subst he
  simp only [zc,B0,reduceIte,reduceEqDiff]
  exact ⟨c31,pv0_1,pc0_1,by first | trivial | rfl,hv32,ph0_1,(Sep.m2 (Sep.m1 (Sep.m2 hS30)))⟩
 rw [iteF hc26] at hF9
 simp only [qrz,qh,qf,qv,qb,z4,qg,qa,quk,qy,B0,reduceIte,reduceEqDiff]
 refine qw (t:=(decide (v_1.Kind=3))) (fun hc34=>?_) (fun hc34=>?_)
 ·rw [iteT hc34] at hF9
  simp only [qt2,qh,qf,zf0,qg,kg,qb,zz,qo,Nat.reduceAdd,Nat.zero_add,Nat.add_zero,q9,ql,B0,reduceIte,reduceEqDiff]
  refine qi (v:=pv0_0) ((z5 (Sep.bk _ _ _ hS6)).trans rfl) ?_
  simp only [zr,qb,SlF.plen ph0_0,qg,qa,B0,reduceIte,reduceEqDiff]
  obtain ⟨oc43,hX45,hk46⟩:=jd hF9
  simp only [qqe]
  refine wc (σ:=(List Broker)) (fun i41 s71=>wu i41 s71) (fun s fr' h'=>∃ c39,
    fr' 0 = .ptr pb0 0∧SlF qe 3 86 pv0_0 s c39∧Sep h' lo ([Blk1 pb0 [pv0_0,pv0_1,.int .i64 v_0.Next] 29]++(c39++(pc0_1++(S0))))) hX45 ⟨pc0_0,zf0,ph0_0,
    (Sep.m2 (Sep.m2 (Sep.m2 hS6)))⟩ (by simp only [B0,reduceIte,reduceEqDiff]) (by simp only [B0,reduceIte,
    reduceEqDiff]) (fun _ _ _ h=>h) rfl rfl (fun _ _ _ _ h=>h) (fun _ _ _ _ h=>h) (fun _ _ _ _ h=>h) (by decide) ?_ ?_
  ·rintro i41 s38 fr55 h56 hx59 ⟨c39,f58,hv40,hS57⟩ f60 f61 oc44 hF47 hr48 Q49 hN50 hB54 hK51 hR52 hE53
   unfold wu at hF47
   simp only [qyb,qh,qf,f60,qg,qa,q2l,jo,f58,jl,qt,k7,zz,z8,Nat.reduceAdd,Nat.zero_add,Nat.add_zero,
     q9,z2,B0,reduceIte,reduceEqDiff]
   refine zd (v:=pv0_0) ((z5 (Sep.bk _ _ _ hS57)).trans rfl) ?_
   simp only [jl,qt,f58,k7,zz,z8,Nat.reduceAdd,Nat.zero_add,Nat.add_zero,q9,z2,B0,reduceIte,reduceEqDiff]
   refine zd (v:=pv0_0) ((z5 (Sep.bk _ _ _ hS57)).trans rfl) ?_
   obtain ⟨x62,hx63,hF64⟩:=qm hF47
   simp only [jl,qt,qam,B0,reduceIte,reduceEqDiff]
   refine zd (SlF.ia hv40 hb11 hx63) ?_
   simp only [z8,qt,Nat.reduceAdd,Nat.zero_add,Nat.add_zero,q9,z2,B0,reduceIte,reduceEqDiff]
   refine zd (v := .int .i64 x62.Left) ((SlF.ld (o:=1) hv40 (Sep.m1 hS57) hb11 hx63 (fun _=>rfl) (nle rfl)).trans rfl) ?_
   simp only [u3,qt,qf7,q52,q8c,qam,B0,reduceIte,reduceEqDiff]
   refine zd (SlF.ia hv40 hb11 hx63) ?_
   simp only [z8,qt,Nat.reduceAdd,Nat.zero_add,Nat.add_zero,q9,qdj,B0,reduceIte,reduceEqDiff]
   refine qib (f:=qe) (x':=(Broker.mk x62.Epoch (mxI (IntKind.wrap .i64 (x62.Left - 1)) 0) x62.Fenced)) (o:=1) hv40 (Sep.m1 hS57) hW hb11 hx63
     (fun _=>rfl) rfl rfl (nle rfl) rfl (fun c67 h65 hv68 hS66=>?_)
   have hx69:=ym (x':=(Broker.mk x62.Epoch (mxI (IntKind.wrap .i64 (x62.Left - 1)) 0) x62.Fenced)) hx63
   simp only [zm,qk,B0,reduceIte,reduceEqDiff]
   have e70:=qj hF64
   exact hN50 _ _ _ e70.symm ⟨c67,f58,hv68,(Sep.m2 (Sep.m1 (Sep.m2 hS66)))⟩ (f60) (f61)
  rintro s72 fr75 h76 rfl ⟨c73,f78,hv74,hS77⟩
  dsimp only [jnO] at hk46
  unfold qcz at hk46
  simp only [xd,qh,qf,qg,qa,q8,B0,reduceIte,reduceEqDiff]
  have he:=qj hk46
  subst he
  simp only [zc,B0,reduceIte,reduceEqDiff]
  exact ⟨c73,pv0_1,pc0_1,by first | trivial | rfl,hv74,ph0_1,(Sep.m2 (Sep.m2 (Sep.m2 hS77)))⟩
 rw [iteF hc34] at hF9
 simp only [qts,qh,qf,qv,qb,z4,qg,qa,qvt,qy,B0,reduceIte,reduceEqDiff]
 refine qw (t:=(decide (v_1.Kind=4))) (fun hc80=>?_) (fun hc80=>?_)
 ·rw [iteT hc80] at hF9
  simp only [qpg,qh,qf,qo,qb,Nat.reduceAdd,Nat.zero_add,Nat.add_zero,qq,ql,B0,reduceIte,reduceEqDiff]
  refine qi (v:=lst cI v_1.InStep) rfl ?_
  simp only [zr,qb,zx,qv,z4,qg,B0,reduceIte,reduceEqDiff]
  refine zu 7 (fun fr' h'=>Sep h' lo ([Blk1 pb0 [pv0_0,pv0_1,
    .int .i64 v_0.Next] 29]++(pc0_0++(pc0_1++(S0))))∧fr' 99 = .bool ((decide ((List.length v_1.InStep:Int)=0))||(decide
    ((List.length v_0.Parts:Int)=5)))∧fr' 0 = .ptr pb0 0∧fr' 3 = .ref [.int .i64 v_1.Kind,.int .i64 v_1.Broker,.int .i64 v_1.Epoch,.int .i64 v_1.Part,
    .int .i64 v_1.Stamp,lst cI v_1.InStep] 0) (fun Q81 hN82=>?_) ?_
  ·simp only [List.take_succ_cons,List.take_zero]
   simp only [qc (g:=92),B0,reduceIte,reduceEqDiff]
   refine qx (t:=(decide ((List.length v_1.InStep:Int)=0))) (fun hg83=>?_) (fun hg83=>?_)
   ·simp only [hg83,qc (g:=92),zq,qr,qb,zh,qa,qk,B0,reduceIte,reduceEqDiff]
    exact hN82 _ _ ⟨(Sep.m2 (Sep.m2 (Sep.m2 hS6))),by rw [orT hg83]; simp only [B0,reduceIte,reduceEqDiff],zf0,rfl⟩
   ·simp only [hg83,qc (g:=92),qp,zf0,qg,kg,qb,zz,qo,Nat.reduceAdd,Nat.zero_add,Nat.add_zero,q9,ql,B0,
     reduceIte,reduceEqDiff]
    refine qi (v:=pv0_1) ((z5 (Sep.bk _ _ _ hS6)).trans rfl) ?_
    simp only [hg83,qc (g:=92),qp,zr,qb,SlN.len ph0_1,qv,z4,qr,zi,qa,qk,B0,reduceIte,reduceEqDiff]
    exact hN82 _ _ ⟨(Sep.m2 (Sep.m2 (Sep.m2 hS6))),by rw [orF hg83]; simp only [B0,reduceIte,reduceEqDiff],zf0,rfl⟩
  rintro fr84 h88 ⟨hS89,f85,f86,f87⟩
  simp only [List.drop_succ_cons,List.drop_zero]
  simp only [qa,f85,qy,B0,reduceIte,reduceEqDiff]
  refine qw (t:=((decide ((List.length v_1.InStep:Int)=0))||(decide ((List.length v_0.Parts:Int)=5)))) (fun hc90=>?_) (fun hc90=>?_)
  ·rw [iteT hc90] at hF9
   simp only [qh,qf,qg,qa,q8,B0,reduceIte,reduceEqDiff]
   have he:=qj hF9
   subst he
   simp only [zc,B0,reduceIte,reduceEqDiff]
   exact ⟨pc0_0,pv0_1,pc0_1,by first | trivial | rfl,ph0_0,ph0_1,(Sep.m2 (Sep.m2 (Sep.m2 hS89)))⟩
  rw [iteF hc90] at hF9
  simp only [ze,qr7,jo,qbv,evp,B0,reduceIte,reduceEqDiff]
  refine qac (n:=1) (f:=cI) ([] : List Int) hS89 rfl rfl (fun v92 c93 h94 hv95 hS96 hq91=>?_)
  simp only [f87,z8,qt,Nat.reduceAdd,Nat.zero_add,Nat.add_zero,qq,z2,B0,reduceIte,reduceEqDiff]
  refine zd (v:=lst cI v_1.InStep) rfl ?_
  simp only [qk4,evp,B0,reduceIte,reduceEqDiff]
  refine qh5 (n:=1) (f:=cI) ([] : List Int) hS96 rfl rfl (fun v98 c99 h100 hv101 hS102=>?_)
  simp only [f87,qdo,qt,Nat.reduceAdd,Nat.zero_add,Nat.add_zero,qq,qcc,qbq,B0,reduceIte,reduceEqDiff]
  refine zd (v:=lst cI v_1.InStep) rfl ?_
  simp only [f86,qj1,qt,q7h,zz,qdo,Nat.reduceAdd,Nat.zero_add,Nat.add_zero,q9,qcc,B0,reduceIte,reduceEqDiff]
  refine qkj (Sep.ltk hS89) ?_
  refine zd (v:=pv0_1) ((z5 (Sep.bk _ _ _ (Sep.m2 hS102))).trans rfl) ?_
  simp only [qdy,B0,reduceIte,reduceEqDiff]
  obtain ⟨l104,hx105,hF106⟩:=qm hF9
  have hq107:=nwq (fun z hz=>Sep.dj (Sep.m2 (Sep.m2 hS102)) qbn (SlF.rowfp hv95 z hz))
  refine qgt (qik (fun z hz=>Sep.dj (Sep.m2 (Sep.m2 hS102)) qbn (SlF.rowfp hv95 z hz)) qfi) ?_
  refine qaw (f:=cI) hv95 (Sep.m1 hS102) hW (fun _=>rfl) (fun _=>rfl) (yv (fun _=>rfl)) hx105 (fun v108 c109 h110 hv111 hS112=>?_)
  simp only [qdy,B0,reduceIte,reduceEqDiff]
  obtain ⟨l114,hx115,hF116⟩:=qm hF106
  have hq117:=nwq (fun z hz=>Sep.dj (Sep.m2 (Sep.m2 hS112)) qbn (SlF.rowfp hv101 z hz))
  refine qgt (qik (fun z hz=>Sep.dj (Sep.m2 (Sep.m2 hS112)) qbn (SlF.rowfp hv101 z hz)) qfi) ?_
  refine qaw (f:=cI) hv101 (Sep.m1 hS112) hW (fun _=>rfl) (fun _=>rfl) (yv (fun _=>rfl)) hx115 (fun v118 c119 h120 hv121 hS122=>?_)
  simp only [qhd,evp,B0,reduceIte,reduceEqDiff]
  refine zd (v := .agg [v108,v118,.int .i64 (-1),.int .i64 0,.int .i64 0]) (qdf (u7 (us:=[v108]) (vs:=[v108,.nil,.int .i64 0,.int .i64 0,
    .int .i64 0]) (kd (SlF.one hv111)) rfl (nle rfl) (qs (SlF.one hv111) zt) rfl (u7 (us:=[v118]) (vs:=[v108,v118,.int .i64 0,.int .i64 0,
    .int .i64 0]) (kd (SlF.one hv121)) rfl (nle rfl) (qs (SlF.one hv121) zt) rfl (u7 (us:=[.int .i64 (-1)]) (vs:=[v108,v118,.int .i64 (-1),.int .i64 0,
    .int .i64 0]) rfl rfl (nle rfl) rfl rfl qe3)))) ?_
  simp only [qbv,evp,B0,reduceIte,reduceEqDiff]
  refine qh2 (R:=Partition.R) (n:=5) (cs:=[v108,v118,.int .i64 (-1),.int .i64 0,
    .int .i64 0]) (os:=c109++(c119)) (Sep.bi2 (c1:=c109) (c2:=c119) (Sep.m1 hS122)) (u7 (us:=[v108,v118,.int .i64 (-1),.int .i64 0,.int .i64 0]) (vs:=[v108,
    v118,.int .i64 (-1),.int .i64 0,.int .i64 0]) rfl rfl (nle rfl) (qs (SlF.one hv111) (qs (SlF.one hv121) (qs rfl (qs rfl (qs rfl zt))))) rfl qe3)
    (Partition.RI (x:=(Partition.mk l104 l114 (-1) 0 0)) hv111 hv121) rfl (fun v124 c125 h126 hv127 hS128=>?_)
  simp only [qpn,B0,reduceIte,reduceEqDiff]
  obtain ⟨l130,hx131,hF132⟩:=qm hF116
  refine qjs (R:=Partition.R) (c:=pc0_1) ph0_1 hv127 (Sep.m3 hS128) hW Partition.RO.len Partition.RO.one hx131 (fun v133 c134 h135 hv136 hS137=>?_)
  simp only [k7,qt,zz,z8,Nat.reduceAdd,Nat.zero_add,Nat.add_zero,q9,qdj,B0,reduceIte,reduceEqDiff]
  refine qc1 (us:=[v133]) (kd (SlN.one hv136)) (cs':=[pv0_0,v133,
    .int .i64 v_0.Next]) (Sep.m1 hS137) hW rfl (qs (SlN.one hv136) zt) (nle rfl) rfl (fun h139 hS140=>?_)
  simp only [zm,xd,qh,qf,qg,qa,q8,B0,reduceIte,reduceEqDiff]
  have he:=qj hF132
  subst he
  simp only [zc,B0,reduceIte,reduceEqDiff]
  exact ⟨pc0_0,v133,c134,by first | trivial | rfl,ph0_0,hv136,(Sep.m2 (Sep.m2 (Sep.m1 hS140)))⟩
 rw [iteF hc80] at hF9
 simp only [qtk,qh,qf,qv,qb,z4,qg,qa,qq0,qy,B0,reduceIte,reduceEqDiff]
 obtain ⟨s141,hX143,hk144⟩:=qm hF9
 refine xq (t:=(decide (v_1.Kind=5))) (fun fr' h'=>fr' 0 = .ptr pb0 0∧fr' 3 = .ref [.int .i64 v_1.Kind,.int .i64 v_1.Broker,.int .i64 v_1.Epoch,.int .i64 v_1.Part,
   .int .i64 v_1.Stamp,lst cI v_1.InStep] 0∧fr' 5 = .ptr b10 (v_1.Broker.toNat*3)∧fr' 118 = .bool s141∧Sep h' lo ([Blk1 pb0 [pv0_0,pv0_1,
   .int .i64 v_0.Next] 29]++(pc0_0++(pc0_1++(S0))))) (fun Q145 hN146 hR147 hE148=>⟨fun hc149=>?_,fun hc149=>?_⟩) ?_
 ·rw [iteT hc149] at hX143
  simp only [ze,qk,B0,reduceIte,reduceEqDiff]
  have e150:=qj hX143
  subst e150
  exact hN146 _ _ ⟨zf0,rfl,rfl,rfl,(Sep.m2 (Sep.m2 (Sep.m2 hS6)))⟩
 ·rw [iteF hc149] at hX143
  simp only [qf,qv,qb,z4,qg,qa,qk,B0,reduceIte,reduceEqDiff]
  have e151:=qj hX143
  subst e151
  exact hN146 _ _ ⟨zf0,rfl,rfl,rfl,(Sep.m2 (Sep.m2 (Sep.m2 hS6)))⟩
 rintro fr152 h153 ⟨f155,f156,f157,f158,hS154⟩
 unfold ky at hk144
 simp only [qtb,f158,qy,B0,reduceIte,reduceEqDiff]
 refine qw (t:=s141) (fun hc159=>?_) (fun hc159=>?_)
 ·rw [iteT hc159] at hk144
  simp only [qr6,qh,jo,f156,z8,qt,Nat.reduceAdd,Nat.zero_add,Nat.add_zero,qq,z2,B0,reduceIte,reduceEqDiff]
  refine zd (v := .int .i64 v_1.Part) rfl ?_
  simp only [f155,jl,qt,k7,zz,z8,Nat.reduceAdd,Nat.zero_add,Nat.add_zero,q9,z2,B0,reduceIte,reduceEqDiff]
  refine zd (v:=pv0_1) ((z5 (Sep.bk _ _ _ hS154)).trans rfl) ?_
  simp only [qj5,qt,SlN.len ph0_1,u3,qby,zm,qy,B0,reduceIte,reduceEqDiff]
  refine qw (t:=(decide ((List.length v_0.Parts:Int)≤v_1.Part))) (fun hc160=>?_) (fun hc160=>?_)
  ·rw [iteT hc160] at hk144
   simp only [qh,qf,qg,qa,q8,B0,reduceIte,reduceEqDiff]
   have he:=qj hk144
   subst he
   simp only [zc,B0,reduceIte,reduceEqDiff]
   exact ⟨pc0_0,pv0_1,pc0_1,by first | trivial | rfl,ph0_0,ph0_1,(Sep.m2 (Sep.m2 (Sep.m2 hS154)))⟩
  rw [iteF hc160] at hk144
  simp only [ze,qrx,qh,jo,f155,jl,qt,k7,zz,z8,Nat.reduceAdd,Nat.zero_add,Nat.add_zero,q9,z2,B0,reduceIte,
    reduceEqDiff]
  refine zd (v:=pv0_1) ((z5 (Sep.bk _ _ _ hS154)).trans rfl) ?_
  simp only [f156,z8,qt,Nat.reduceAdd,Nat.zero_add,Nat.add_zero,qq,z2,B0,reduceIte,reduceEqDiff]
  refine zd (v := .int .i64 v_1.Part) rfl ?_
  obtain ⟨x161,hx162,hF163⟩:=qm hk144
  simp only [qam,B0,reduceIte,reduceEqDiff]
  obtain ⟨b164,hb165⟩:=SlN.isrow ph0_1 (k8 hx162)
  refine zd (SlN.ia ph0_1 hb165 hx162) ?_
  simp only [jl,qt,zm,qsy,qh,qf,f156,qo,qb,Nat.reduceAdd,Nat.zero_add,Nat.add_zero,qq,ql,B0,reduceIte,
    reduceEqDiff]
  refine qi (v := .int .i64 v_1.Kind) rfl ?_
  simp only [qv,qb,z4,qa,qrp,qy,B0,reduceIte,reduceEqDiff]
  refine qw (t:=(decide (v_1.Kind=6))) (fun hc166=>?_) (fun hc166=>?_)
  ·rw [iteT hc166] at hF163
   obtain ⟨c167,cs168,os169,hv170,hR171,hS172⟩:=SlG.opn (SlN.toG ph0_1 hb165 Partition.RO.len) hx162 jr Partition.RO.len (Sep.m2 hS154)
   obtain ⟨v174,c175,v178,c179,hv176,hv180,rfl,rfl⟩:=hR171
   have hS173:=Sep.no2 hS172
   simp only [qux,qh,jo,jl,qt,k7,zz,z8,Nat.reduceAdd,Nat.zero_add,Nat.add_zero,q9,z2,B0,reduceIte,reduceEqDiff]
   refine zd (v:=v178) ((SlG.ld (o:=1) hv170 rfl hx162 hS173 (nle rfl)).trans rfl) ?_
   simp only [f156,z8,qt,Nat.reduceAdd,Nat.zero_add,Nat.add_zero,qq,z2,B0,reduceIte,reduceEqDiff]
   refine zd (v := .int .i64 v_1.Broker) rfl ?_
   obtain ⟨v182,hx183,hF184⟩:=qm hF163
   simp only [xz,B0,reduceIte,reduceEqDiff]
   refine qf6 rfl (qn (SlF.snap hv180 (Sep.m2 hS173) rfl (fun _=>rfl) (fun _=>rfl)) (qn qu zg)) (wm
     (fun b hb=>decide_eq_true hb) x161.InStep v_1.Broker v182 hx183) ?_
   simp only [qgv,qt,jq,jl,B0,reduceIte,reduceEqDiff]
   refine qie 5 (fun fr' h'=>Sep h' lo (c167++([Blk1 pb0 [pv0_0,pv0_1,
     .int .i64 v_0.Next] 29]++(c175++(c179++(pc0_0++(S0))))))∧fr' 152 = .bool ((!v182)||x7.Fenced)∧fr' 3 = .ref [.int .i64 v_1.Kind,.int .i64 v_1.Broker,
     .int .i64 v_1.Epoch,.int .i64 v_1.Part,.int .i64 v_1.Stamp,lst cI v_1.InStep] 0∧fr' 7 = .ptr b164 (v_1.Part.toNat*5)) rfl (fun Q185 hN186=>?_) ?_
   ·simp only [List.take_succ_cons,List.take_zero]
    simp only [zk (g:=147),B0,reduceIte,reduceEqDiff]
    refine yk (t:=(!v182)) (fun hg187=>?_) (fun hg187=>?_)
    ·simp only [hg187,zk (g:=147),wx,yj,qt,zh,zm,qk,B0,reduceIte,reduceEqDiff]
     exact hN186 _ _ ⟨(Sep.m4 (Sep.m4 (Sep.m3 (Sep.m3 (Sep.m4 hS173))))),by rw [orT hg187]; simp only [B0,reduceIte,reduceEqDiff],f156,rfl⟩
    ·simp only [hg187,zk (g:=147),z0,f157,jl,qt,k7,zz,z8,Nat.reduceAdd,Nat.zero_add,Nat.add_zero,q9,z2,B0,
      reduceIte,reduceEqDiff]
     refine zd (v := .bool x7.Fenced) ((SlF.ld (o:=2) ph0_0 (Sep.m4 hS173) hb11 hx8 (fun _=>rfl) (nle rfl)).trans rfl) ?_
     simp only [hg187,yj,qt,zi,zm,qk,B0,reduceIte,reduceEqDiff]
     exact hN186 _ _ ⟨(Sep.m4 (Sep.m4 (Sep.m3 (Sep.m3 (Sep.m4 hS173))))),by rw [orF hg187]; simp only [B0,reduceIte,reduceEqDiff],f156,rfl⟩
   rintro fr188 h192 ⟨hS193,f189,f190,f191⟩
   simp only [List.drop_succ_cons,List.drop_zero]
   simp only [zm,f189,qy,B0,reduceIte,reduceEqDiff]
   refine qw (t:=((!v182)||x7.Fenced)) (fun hc194=>?_) (fun hc194=>?_)
   ·rw [iteT hc194] at hF184
    simp only [qh,qf,qg,qa,q8,B0,reduceIte,reduceEqDiff]
    obtain ⟨c195,hv196,hS197⟩:=SlG.cls0 (c:=c167) (os:=c175++(c179)) hv170 rfl hx162 jr (Partition.RI (x:=x161) hv176 hv180) (Sep.ni2 (c1:=c175)
      (c2:=c179) (Sep.m2 (Sep.m3 (Sep.m3 hS193))))
    have hv198:=SlG.toN hv196
    have he:=qj hF184
    subst he
    simp only [zc,B0,reduceIte,reduceEqDiff]
    exact ⟨pc0_0,pv0_1,c195,by first | trivial | rfl,ph0_0,hv198,(Sep.m2 (Sep.m2 hS197))⟩
   rw [iteF hc194] at hF184
   simp only [ze,qr2,qh,qf,f191,qg,f190,qo,qb,Nat.reduceAdd,Nat.zero_add,Nat.add_zero,qq,ql,B0,reduceIte,reduceEqDiff]
   refine qi (v := .int .i64 v_1.Broker) rfl ?_
   simp only [kg,qb,zz,qo,Nat.reduceAdd,Nat.zero_add,Nat.add_zero,q9,zl,B0,reduceIte,reduceEqDiff]
   refine qcm (n:=5) (us:=[.int .i64 v_1.Broker]) (cs:=[v174,v178,.int .i64 x161.Leader,.int .i64 x161.Epoch,.int .i64 x161.Stamp]) (o:=2) (cs':=[v174,
     v178,.int .i64 v_1.Broker,.int .i64 x161.Epoch,.int .i64 x161.Stamp]) rfl hv170 rfl hx162 hS193 hW rfl rfl (nle rfl) rfl (fun c201 h199 hv202 hS200=>?_)
   simp only [qa,qh,qf,qg,q8,B0,reduceIte,reduceEqDiff]
   obtain ⟨c203,hv204,hS205⟩:=SlG.cls (e':=(Partition.mk x161.Homes x161.InStep v_1.Broker x161.Epoch x161.Stamp)) (c:=c201) (os:=c175 ++
     (c179)) hv202 rfl hx162 jr (Partition.RI (x:=(Partition.mk x161.Homes x161.InStep v_1.Broker x161.Epoch x161.Stamp)) hv176 hv180) (Sep.ni2 (c1:=c175)
     (c2:=c179) (Sep.m2 (Sep.m3 (Sep.m3 hS200))))
   have hx206:=ym (x':=(Partition.mk x161.Homes x161.InStep v_1.Broker x161.Epoch x161.Stamp)) hx162
   have hv207:=SlG.toN hv204
   have he:=qj hF184
   subst he
   simp only [zc,B0,reduceIte,reduceEqDiff]
   exact ⟨pc0_0,pv0_1,c203,by first | trivial | rfl,ph0_0,hv207,(Sep.m2 (Sep.m2 hS205))⟩
  rw [iteF hc166] at hF163
  simp only [ze,qt5,qh,qf,f155,qg,f156,ql,B0,reduceIte,reduceEqDiff]
  refine qi (v := .agg [.int .i64 v_1.Kind,.int .i64 v_1.Broker,.int .i64 v_1.Epoch,.int .i64 v_1.Part,.int .i64 v_1.Stamp,lst cI v_1.InStep]) rfl ?_
  simp only [zb,B0,reduceIte,reduceEqDiff]
  refine kv rfl (Ret.of (fn:=x93) rfl (Run.of ?_)) (fun _ _ h=>h)
  have zf208:zj ([.ptr pb0 0,.ptr b164 (v_1.Part.toNat*5),.agg [.int .i64 v_1.Kind,.int .i64 v_1.Broker,.int .i64 v_1.Epoch,.int .i64 v_1.Part,.int .i64 v_1.Stamp,
    lst cI v_1.InStep]]++[]) 0 = .ptr pb0 0:=rfl
  have zf209:zj ([.ptr pb0 0,.ptr b164 (v_1.Part.toNat*5),.agg [.int .i64 v_1.Kind,.int .i64 v_1.Broker,.int .i64 v_1.Epoch,.int .i64 v_1.Part,.int .i64 v_1.Stamp,
    lst cI v_1.InStep]]++[]) 1 = .ptr b164 (v_1.Part.toNat*5):=rfl
  have zf210:zj ([.ptr pb0 0,.ptr b164 (v_1.Part.toNat*5),.agg [.int .i64 v_1.Kind,.int .i64 v_1.Broker,.int .i64 v_1.Epoch,.int .i64 v_1.Part,.int .i64 v_1.Stamp,
    lst cI v_1.InStep]]++[]) 2 = .agg [.int .i64 v_1.Kind,.int .i64 v_1.Broker,.int .i64 v_1.Epoch,.int .i64 v_1.Part,.int .i64 v_1.Stamp,lst cI v_1.InStep]:=rfl
  generalize zj ([.ptr pb0 0,.ptr b164 (v_1.Part.toNat*5),.agg [.int .i64 v_1.Kind,.int .i64 v_1.Broker,.int .i64 v_1.Epoch,.int .i64 v_1.Part,.int .i64 v_1.Stamp,
    lst cI v_1.InStep]]++[])=fr211 at zf208 zf209 zf210 ⊢
  simp only [x93,qh,qf,ju,zf208,B0,reduceIte,reduceEqDiff]
  refine je (cs:=[.ptr pb0 0]) hS154 rfl rfl rfl (fun b212 h213 hS214=>?_)
  simp only [ju,zf209,B0,reduceIte,reduceEqDiff]
  refine je (cs:=[.ptr b164 (v_1.Part.toNat*5)]) hS214 rfl rfl rfl (fun b216 h217 hS218=>?_)
  simp only [ju,zf210,B0,reduceIte,reduceEqDiff]
  refine je (cs:=[.int .i64 v_1.Kind,.int .i64 v_1.Broker,.int .i64 v_1.Epoch,.int .i64 v_1.Part,.int .i64 v_1.Stamp,
    lst cI v_1.InStep]) hS218 rfl rfl rfl (fun b220 h221 hS222=>?_)
  simp only [qg,qa,B0,reduceIte,reduceEqDiff]
  refine zw (Sep.m2 hS222) hW (by simp only [B0,reduceIte,reduceEqDiff]) (fun h224 hS225=>?_)
  refine zw (Sep.m1 hS225) hW (by simp only [B0,reduceIte,reduceEqDiff]) (fun h226 hS227=>?_)
  refine zw hS227 hW (by simp only [B0,reduceIte,reduceEqDiff]) (fun h228 hS229=>?_)
  simp only [zv,qqc,qh,wh,q4j,jo,z8,qt,Nat.reduceAdd,Nat.zero_add,Nat.add_zero,qq,z2,B0,reduceIte,reduceEqDiff]
  refine zd (v := .int .i64 v_1.Epoch) rfl ?_
  simp only [z2,B0,reduceIte,reduceEqDiff]
  refine zd (v := .ptr b164 (v_1.Part.toNat*5)) rfl ?_
  obtain ⟨c230,cs231,os232,hv233,hR234,hS235⟩:=SlG.opn (SlN.toG ph0_1 hb165 Partition.RO.len) hx162 jr Partition.RO.len (Sep.m2 hS229)
  obtain ⟨v237,c238,v241,c242,hv239,hv243,rfl,rfl⟩:=hR234
  have hS236:=Sep.no2 hS235
  simp only [k7,qt,zz,z8,Nat.reduceAdd,Nat.zero_add,Nat.add_zero,q9,z2,B0,reduceIte,reduceEqDiff]
  refine zd (v := .int .i64 x161.Epoch) ((SlG.ld (o:=3) hv233 rfl hx162 hS236 (nle rfl)).trans rfl) ?_
  simp only [u3,qt,ue,jl,zm,q2k,qy,B0,reduceIte,reduceEqDiff]
  refine qw (t:=(decide (v_1.Epoch≠x161.Epoch))) (fun hc245=>?_) (fun hc245=>?_)
  ·rw [iteT hc245] at hF163
   simp only [qh,qf,qg,qa,q8,B0,reduceIte,reduceEqDiff]
   simp only [zc,B0,reduceIte,reduceEqDiff]
   simp only [qg,qa,q8,B0,reduceIte,reduceEqDiff]
   obtain ⟨c246,hv247,hS248⟩:=SlG.cls0 (c:=c230) (os:=c238++(c242)) hv233 rfl hx162 jr (Partition.RI (x:=x161) hv239 hv243) (Sep.ni2 (c1:=c238) (c2:=c242)
     (Sep.m2 (Sep.m2 (Sep.m2 hS236))))
   have hv249:=SlG.toN hv247
   have he:=qj hF163
   subst he
   simp only [zc,B0,reduceIte,reduceEqDiff]
   exact ⟨pc0_0,pv0_1,c246,by first | trivial | rfl,ph0_0,hv249,(Sep.m2 (Sep.m2 hS248))⟩
  rw [iteF hc245] at hF163
  simp only [q2a,qh,jo,z8,qt,Nat.reduceAdd,Nat.zero_add,Nat.add_zero,qq,z2,B0,reduceIte,reduceEqDiff]
  refine zd (v := .int .i64 v_1.Broker) rfl ?_
  simp only [z2,B0,reduceIte,reduceEqDiff]
  refine zd (v := .ptr b164 (v_1.Part.toNat*5)) rfl ?_
  simp only [k7,qt,zz,z8,Nat.reduceAdd,Nat.zero_add,Nat.add_zero,q9,z2,B0,reduceIte,reduceEqDiff]
  refine zd (v := .int .i64 x161.Leader) ((SlG.ld (o:=2) hv233 rfl hx162 hS236 (nle rfl)).trans rfl) ?_
  simp only [u3,qt,ue,jl,zm,q33,qy,B0,reduceIte,reduceEqDiff]
  refine qw (t:=(decide (v_1.Broker≠x161.Leader))) (fun hc250=>?_) (fun hc250=>?_)
  ·rw [iteT hc250] at hF163
   simp only [qh,qf,qg,qa,q8,B0,reduceIte,reduceEqDiff]
   simp only [zc,B0,reduceIte,reduceEqDiff]
   simp only [qg,qa,q8,B0,reduceIte,reduceEqDiff]
   obtain ⟨c251,hv252,hS253⟩:=SlG.cls0 (c:=c230) (os:=c238++(c242)) hv233 rfl hx162 jr (Partition.RI (x:=x161) hv239 hv243) (Sep.ni2 (c1:=c238) (c2:=c242)
     (Sep.m2 (Sep.m2 (Sep.m2 hS236))))
   have hv254:=SlG.toN hv252
   have he:=qj hF163
   subst he
   simp only [zc,B0,reduceIte,reduceEqDiff]
   exact ⟨pc0_0,pv0_1,c251,by first | trivial | rfl,ph0_0,hv254,(Sep.m2 (Sep.m2 hS253))⟩
  rw [iteF hc250] at hF163
  simp only [qx5,qh,jo,z8,qt,Nat.reduceAdd,Nat.zero_add,Nat.add_zero,qq,z2,B0,reduceIte,reduceEqDiff]
  refine zd (v := .int .i64 v_1.Stamp) rfl ?_
  simp only [z2,B0,reduceIte,reduceEqDiff]
  refine zd (v := .ptr b164 (v_1.Part.toNat*5)) rfl ?_
  simp only [k7,qt,zz,z8,Nat.reduceAdd,Nat.zero_add,Nat.add_zero,q9,z2,B0,reduceIte,reduceEqDiff]
  refine zd (v := .int .i64 x161.Stamp) ((SlG.ld (o:=4) hv233 rfl hx162 hS236 (nle rfl)).trans rfl) ?_
  simp only [u3,qt,ue,jl,zm,qy,B0,reduceIte,reduceEqDiff]
  refine qw (t:=(decide (v_1.Stamp≠x161.Stamp))) (fun hc255=>?_) (fun hc255=>?_)
  ·rw [iteT hc255] at hF163
   simp only [qh,qf,qg,qa,q8,B0,reduceIte,reduceEqDiff]
   simp only [zc,B0,reduceIte,reduceEqDiff]
   simp only [qg,qa,q8,B0,reduceIte,reduceEqDiff]
   obtain ⟨c256,hv257,hS258⟩:=SlG.cls0 (c:=c230) (os:=c238++(c242)) hv233 rfl hx162 jr (Partition.RI (x:=x161) hv239 hv243) (Sep.ni2 (c1:=c238) (c2:=c242)
     (Sep.m2 (Sep.m2 (Sep.m2 hS236))))
   have hv259:=SlG.toN hv257
   have he:=qj hF163
   subst he
   simp only [zc,B0,reduceIte,reduceEqDiff]
   exact ⟨pc0_0,pv0_1,c256,by first | trivial | rfl,ph0_0,hv259,(Sep.m2 (Sep.m2 hS258))⟩
  rw [iteF hc255] at hF163
  simp only [ze,xd,q39,qh,qf,qo,qb,Nat.reduceAdd,Nat.zero_add,Nat.add_zero,qq,ql,B0,reduceIte,reduceEqDiff]
  refine qi (v:=lst cI v_1.InStep) rfl ?_
  obtain ⟨c260,hv261,hS262⟩:=SlG.cls0 (c:=c230) (os:=c238++(c242)) hv233 rfl hx162 jr (Partition.RI (x:=x161) hv239 hv243) (Sep.ni2 (c1:=c238) (c2:=c242)
    (Sep.m2 (Sep.m2 (Sep.m2 hS236))))
  have hv263:=SlG.toN hv261
  simp only [qnz,zb,B0,reduceIte,reduceEqDiff]
  refine kv rfl (Ret.of (fn:=x94) rfl (Run.of ?_)) (fun _ _ h=>h)
  have zf264:zj ([lst cI v_1.InStep,.fn 97 [.ref [.ptr pb0 0] 0,.ref [.ptr b164 (v_1.Part.toNat*5)] 0]]++[]) 0=lst cI v_1.InStep:=rfl
  have zf265:zj ([lst cI v_1.InStep,.fn 97 [.ref [.ptr pb0 0] 0,.ref [.ptr b164 (v_1.Part.toNat*5)] 0]]++[]) 1 = .fn 97 [.ref [.ptr pb0 0] 0,
    .ref [.ptr b164 (v_1.Part.toNat*5)] 0]:=rfl
  generalize zj ([lst cI v_1.InStep,.fn 97 [.ref [.ptr pb0 0] 0,.ref [.ptr b164 (v_1.Part.toNat*5)] 0]]++[])=fr266 at zf264 zf265 ⊢
  simp only [x94,qh,qf,qg,qa,qo0,zf264,zf265,zb,B0,reduceIte,reduceEqDiff]
  obtain ⟨v267,hx268,hF269⟩:=qm hF163
  refine kv rfl (R:=(fun u h'=>∃ c270,u = .int .i64 v267∧SlN Partition.R 5 39 pv0_1 v_0.Parts c270∧Sep h' lo (c270++([Blk1 pb0 [pv0_0,pv0_1,
    .int .i64 v_0.Next] 29]++(pc0_0++(S0)))))) (Ret.of (fn:=x98) rfl (Run.of ?_)) ?_
  ·have zf271:zj ([lst cI v_1.InStep,.fn 97 [.ref [.ptr pb0 0] 0,.ref [.ptr b164 (v_1.Part.toNat*5)] 0]]++[]) 0=lst cI v_1.InStep:=rfl
   have zf272:zj ([lst cI v_1.InStep,.fn 97 [.ref [.ptr pb0 0] 0,.ref [.ptr b164 (v_1.Part.toNat*5)] 0]]++[]) 1 = .fn 97 [.ref [.ptr pb0 0] 0,
     .ref [.ptr b164 (v_1.Part.toNat*5)] 0]:=rfl
   generalize zj ([lst cI v_1.InStep,.fn 97 [.ref [.ptr pb0 0] 0,.ref [.ptr b164 (v_1.Part.toNat*5)] 0]]++[])=fr273 at zf271 zf272 ⊢
   simp only [x98,qh,qf,qg,qa,qo4,zf271,zr,qb,zx,B0,reduceIte,reduceEqDiff]
   obtain ⟨oc276,hX278,hk279⟩:=jd hx268
   simp only [qox]
   refine kn (σ:=Unit) v_1.InStep (fun i274 x275 _=>yl v_0 x161 i274 x275 )
     (fun s fr' h'=>fr' 0=lst cI v_1.InStep∧fr' 1 = .fn 97 [.ref [.ptr pb0 0] 0,.ref [.ptr b164 (v_1.Part.toNat*5)] 0]∧Sep h' lo ([Blk1 pb0 [pv0_0,pv0_1,
     .int .i64 v_0.Next] 29]++(c260++(pc0_0++(S0))))) hX278 ⟨zf271,zf272,(Sep.m2 (Sep.m1 (Sep.m2 hS262)))⟩ (by simp only [B0,reduceIte,
     reduceEqDiff]) (by simp only [B0,reduceIte,reduceEqDiff]) (fun _ _ _ h=>h) rfl rfl (fun _ _ _ _ h=>h) (fun _ _ _ _ h=>h) (fun _ _ _ _ h=>h) (by decide) ?_ ?_
   ·rintro i274 x275 _ fr288 h289 hx293 ⟨f291,f292,hS290⟩ f294 f295 oc277 hF280 hr281 Q282 hN283 hB287 hK284 hR285 hE286
    unfold yl at hF280
    simp only [qoq,qh,qf,f294,qg,qa,qn8,f292,f291,jb,B0,reduceIte,reduceEqDiff]
    refine qi (v := .ref (cI x275) 0) (ko hx293 rfl) ?_
    simp only [ql,B0,reduceIte,reduceEqDiff]
    refine qi (v := .int .i64 x275) rfl ?_
    simp only [zb,B0,reduceIte,reduceEqDiff]
    refine kv rfl (Ret.of (fn:=x97) rfl (Run.of ?_)) (fun _ _ h=>h)
    have zf296:zj ([.int .i64 x275]++[.ref [.ptr pb0 0] 0,.ref [.ptr b164 (v_1.Part.toNat*5)] 0]) 0 = .int .i64 x275:=rfl
    have zf297:zj ([.int .i64 x275]++[.ref [.ptr pb0 0] 0,.ref [.ptr b164 (v_1.Part.toNat*5)] 0]) 1 = .ref [.ptr pb0 0] 0:=rfl
    have zf298:zj ([.int .i64 x275]++[.ref [.ptr pb0 0] 0,.ref [.ptr b164 (v_1.Part.toNat*5)] 0]) 2 = .ref [.ptr b164 (v_1.Part.toNat*5)] 0:=rfl
    generalize zj ([.int .i64 x275]++[.ref [.ptr pb0 0] 0,.ref [.ptr b164 (v_1.Part.toNat*5)] 0])=fr299 at zf296 zf297 zf298 ⊢
    simp only [x97,qh,qf,qg,qa,q4f,zf297,ql,B0,reduceIte,reduceEqDiff]
    refine qi (v := .ptr pb0 0) rfl ?_
    simp only [kg,qb,zz,qo,Nat.reduceAdd,Nat.zero_add,Nat.add_zero,q9,ql,B0,reduceIte,reduceEqDiff]
    refine qi (v:=pv0_0) ((z5 (Sep.bk _ _ _ hS290)).trans rfl) ?_
    obtain ⟨x300,hx301,hF302⟩:=qm hF280
    simp only [zf296,qg,jb,B0,reduceIte,reduceEqDiff]
    refine qi (SlF.ia ph0_0 hb11 hx301) ?_
    simp only [qo,qb,Nat.reduceAdd,Nat.zero_add,Nat.add_zero,q9,ql,B0,reduceIte,reduceEqDiff]
    refine qi (v := .bool x300.Fenced) ((SlF.ld (o:=2) ph0_0 (Sep.m2 hS290) hb11 hx301 (fun _=>rfl) (nle rfl)).trans rfl) ?_
    simp only [qg,B0,reduceIte,reduceEqDiff]
    obtain ⟨v306,hx307,hF308⟩:=qm hF302
    refine zu 8 (fun fr' h'=>Sep h' lo ([Blk1 pb0 [pv0_0,pv0_1,.int .i64 v_0.Next] 29]++(c260++(pc0_0++(S0))))∧fr' 21 = .bool v306) (fun Q303 hN304=>?_) ?_
    ·simp only [List.take_succ_cons,List.take_zero]
     simp only [qc (g:=13),B0,reduceIte,reduceEqDiff]
     refine qx (t:=x300.Fenced) (fun hg305=>?_) (fun hg305=>?_)
     ·rw [iteT hg305] at hx307
      simp only [hg305,qc (g:=13),qz,zf298,ql,B0,reduceIte,reduceEqDiff]
      refine qi (v := .ptr b164 (v_1.Part.toNat*5)) rfl ?_
      obtain ⟨c309,cs310,os311,hv312,hR313,hS314⟩:=SlG.opn (SlN.toG hv263 hb165 Partition.RO.len) hx162 jr Partition.RO.len (Sep.m1 hS290)
      obtain ⟨v316,c317,v320,c321,hv318,hv322,rfl,rfl⟩:=hR313
      have hS315:=Sep.no2 hS314
      simp only [hg305,qc (g:=13),qz,kg,qb,zz,qo,Nat.reduceAdd,Nat.zero_add,Nat.add_zero,q9,ql,B0,reduceIte,
        reduceEqDiff]
      refine qi (v:=v320) ((SlG.ld (o:=1) hv312 rfl hx162 hS315 (nle rfl)).trans rfl) ?_
      obtain ⟨v324,hx325,hF326⟩:=qm hx307
      simp only [hg305,qc (g:=13),qz,zf296,qg,zb,B0,reduceIte,reduceEqDiff]
      refine jc rfl (qn (SlF.snap hv322 (Sep.m2 hS315) rfl (fun _=>rfl) (fun _=>rfl)) (qn qu zg)) (wm
        (fun b hb=>decide_eq_true hb) x161.InStep x275 v324 hx325) ?_
      simp only [hg305,qc (g:=13),qz,ja,qb,jq,qr,zh,qa,qk,B0,reduceIte,reduceEqDiff]
      have e327:=qj hF326
      exact hN304 _ _ ⟨(Sep.m2 (Sep.m2 (Sep.m2 hS290))),by rw [←e327]; simp only [B0,reduceIte,reduceEqDiff]⟩
     ·rw [iteF hg305] at hx307
      simp only [hg305,qc (g:=13),zy,qr,qb,zi,qa,qk,B0,reduceIte,reduceEqDiff]
      have e328:=qj hx307
      exact hN304 _ _ ⟨(Sep.m2 (Sep.m2 (Sep.m2 hS290))),by rw [←e328]; simp only [B0,reduceIte,reduceEqDiff]⟩
    rintro fr329 h331 ⟨hS332,f330⟩
    simp only [List.drop_succ_cons,List.drop_zero]
    simp only [f330,qg,qa,q8,B0,reduceIte,reduceEqDiff]
    simp only [zc,B0,reduceIte,reduceEqDiff]
    simp only [qa,qo1,qy,B0,reduceIte,reduceEqDiff]
    refine qw (t:=v306) (fun hc333=>?_) (fun hc333=>?_)
    ·rw [iteT hc333] at hF308
     simp only [qh,qf,qg,qa,q8,B0,reduceIte,reduceEqDiff]
     have e334:=qj hF308
     subst e334
     have ho335:=hr281 _ rfl
     have hk336:=hk279
     rw [ho335] at hk336
     dsimp only [jnO] at hk336
     apply hR285
     have he:=qj hk336
     subst he
     simp only [zc,B0,reduceIte,reduceEqDiff]
     exact ⟨c260,by first | trivial | rfl,hv263,(Sep.m2 (Sep.m1 (Sep.m2 hS332)))⟩
    rw [iteF hc333] at hF308
    simp only [ze,qk,B0,reduceIte,reduceEqDiff]
    have e337:=qj hF308
    exact hN283 _ _ _ e337.symm ⟨f291,f292,(Sep.m2 (Sep.m2 (Sep.m2 hS332)))⟩ (f294) (f295)
   rintro _ fr339 h340 rfl ⟨f342,f343,hS341⟩
   dsimp only [jnO] at hk279
   unfold qa6 at hk279
   simp only [qh,qf,qg,qa,q8,B0,reduceIte,reduceEqDiff]
   have he:=qj hk279
   subst he
   simp only [zc,B0,reduceIte,reduceEqDiff]
   exact ⟨c260,by first | trivial | rfl,hv263,(Sep.m2 (Sep.m1 (Sep.m2 hS341)))⟩
  rintro _ h345 ⟨c270,rfl,hv347,hS346⟩
  simp only [qv,qb,qby,qg,qa,q8,B0,reduceIte,reduceEqDiff]
  simp only [zc,B0,reduceIte,reduceEqDiff]
  simp only [qg,qa,q3t,qh,jo,z8,qt,Nat.reduceAdd,Nat.zero_add,Nat.add_zero,qq,z2,B0,reduceIte,reduceEqDiff]
  refine zd (v:=lst cI v_1.InStep) rfl ?_
  simp only [z2,B0,reduceIte,reduceEqDiff]
  refine zd (v := .ptr b164 (v_1.Part.toNat*5)) rfl ?_
  obtain ⟨c348,cs349,os350,hv351,hR352,hS353⟩:=SlG.opn (SlN.toG hv347 hb165 Partition.RO.len) hx162 jr Partition.RO.len hS346
  obtain ⟨v355,c356,v359,c360,hv357,hv361,rfl,rfl⟩:=hR352
  have hS354:=Sep.no2 hS353
  simp only [k7,qt,zz,z8,Nat.reduceAdd,Nat.zero_add,Nat.add_zero,q9,z2,B0,reduceIte,reduceEqDiff]
  refine zd (v:=v355) ((SlG.ld (o:=0) hv351 rfl hx162 hS354 (nle rfl)).trans rfl) ?_
  obtain ⟨v363,hx364,hF365⟩:=qm hF269
  simp only [xz,B0,reduceIte,reduceEqDiff]
  refine qf6 rfl (qn zo (qn (SlF.snap hv357 (Sep.m1 hS354) rfl (fun _=>rfl) (fun _=>rfl)) zg)) (qic
    (fun b hb=>decide_eq_true hb) v_1.InStep x161.Homes v363 hx364) ?_
  simp only [qgv,qt,jq,jl,B0,reduceIte,reduceEqDiff]
  simp only [zk (g:=44),B0,reduceIte,reduceEqDiff]
  refine yk (t:=(!v363)) (fun hg366=>?_) (fun hg366=>?_)
  ·rw [iteT hg366] at hF365
   simp only [hg366,zk (g:=44),wx,yj,qt,zh,jl,zk (g:=54),zm,qy,qfb,qh,qf,qg,
     qa,q8,B0,reduceIte,reduceEqDiff]
   simp only [zc,B0,reduceIte,reduceEqDiff]
   simp only [qg,qa,q8,B0,reduceIte,reduceEqDiff]
   obtain ⟨c367,hv368,hS369⟩:=SlG.cls0 (c:=c348) (os:=c356++(c360)) hv351 rfl hx162 jr (Partition.RI (x:=x161) hv357 hv361) (Sep.ni2 (c1:=c356) (c2:=c360)
     (Sep.m2 (Sep.m2 (Sep.m2 hS354))))
   have hv370:=SlG.toN hv368
   have he:=qj hF365
   subst he
   simp only [zc,B0,reduceIte,reduceEqDiff]
   exact ⟨pc0_0,pv0_1,c367,by first | trivial | rfl,ph0_0,hv370,(Sep.m2 (Sep.m2 hS369))⟩
  rw [iteF hg366] at hF365
  simp only [hg366,zk (g:=44),z0,z8,qt,Nat.reduceAdd,Nat.zero_add,Nat.add_zero,qq,z2,B0,reduceIte,reduceEqDiff]
  refine zd (v:=lst cI v_1.InStep) rfl ?_
  simp only [hg366,zk (g:=44),z0,z2,B0,reduceIte,reduceEqDiff]
  refine zd (v := .ptr b164 (v_1.Part.toNat*5)) rfl ?_
  simp only [hg366,zk (g:=44),z0,k7,qt,zz,z8,Nat.reduceAdd,Nat.zero_add,Nat.add_zero,q9,z2,B0,reduceIte,
    reduceEqDiff]
  refine zd (v := .int .i64 x161.Leader) ((SlG.ld (o:=2) hv351 rfl hx162 hS354 (nle rfl)).trans rfl) ?_
  obtain ⟨v371,hx372,hF373⟩:=qm hF365
  simp only [hg366,zk (g:=44),z0,xz,B0,reduceIte,reduceEqDiff]
  refine qf6 rfl (qn zo (qn qu zg)) (wm (fun b hb=>decide_eq_true hb) v_1.InStep x161.Leader v371 hx372) ?_
  simp only [hg366,zk (g:=44),z0,qgv,qt,jq,yj,zi,jl,B0,reduceIte,reduceEqDiff]
  refine qie 2 (fun fr' h'=>Sep h' lo (c348++([Blk1 pb0 [pv0_0,pv0_1,
    .int .i64 v_0.Next] 29]++(c356++(c360++(pc0_0++(S0))))))∧fr' 56 = .bool ((!v371)||(decide ((0:Int)≤v267)))∧fr' 4 = .ref [.ptr b164
    (v_1.Part.toNat*5)] 0∧fr' 5 = .ref [.int .i64 v_1.Kind,.int .i64 v_1.Broker,.int .i64 v_1.Epoch,.int .i64 v_1.Part,.int .i64 v_1.Stamp,
    lst cI v_1.InStep] 0) rfl (fun Q374 hN375=>?_) ?_
  ·simp only [List.take_succ_cons,List.take_zero]
   simp only [zk (g:=54),B0,reduceIte,reduceEqDiff]
   refine yk (t:=(!v371)) (fun hg376=>?_) (fun hg376=>?_)
   ·simp only [hg376,zk (g:=54),wx,yj,qt,zh,zm,qk,B0,reduceIte,reduceEqDiff]
    exact hN375 _ _ ⟨(Sep.m4 (Sep.m4 (Sep.m3 (Sep.m3 (Sep.m4 hS354))))),by rw [orT hg376]; simp only [B0,reduceIte,reduceEqDiff],rfl,rfl⟩
   ·simp only [hg376,zk (g:=54),z0,jl,qt,yj,zi,zm,qk,B0,reduceIte,reduceEqDiff]
    exact hN375 _ _ ⟨(Sep.m4 (Sep.m4 (Sep.m3 (Sep.m3 (Sep.m4 hS354))))),by rw [orF hg376]; simp only [B0,reduceIte,reduceEqDiff],rfl,rfl⟩
  rintro fr377 h381 ⟨hS382,f378,f379,f380⟩
  simp only [List.drop_succ_cons,List.drop_zero]
  simp only [zm,f378,qy,B0,reduceIte,reduceEqDiff]
  refine qw (t:=((!v371)||(decide ((0:Int)≤v267)))) (fun hc383=>?_) (fun hc383=>?_)
  ·rw [iteT hc383] at hF373
   simp only [qh,qf,qg,qa,q8,B0,reduceIte,reduceEqDiff]
   simp only [zc,B0,reduceIte,reduceEqDiff]
   simp only [qg,qa,q8,B0,reduceIte,reduceEqDiff]
   obtain ⟨c384,hv385,hS386⟩:=SlG.cls0 (c:=c348) (os:=c356++(c360)) hv351 rfl hx162 jr (Partition.RI (x:=x161) hv357 hv361) (Sep.ni2 (c1:=c356) (c2:=c360)
     (Sep.m2 (Sep.m3 (Sep.m3 hS382))))
   have hv387:=SlG.toN hv385
   have he:=qj hF373
   subst he
   simp only [zc,B0,reduceIte,reduceEqDiff]
   exact ⟨pc0_0,pv0_1,c384,by first | trivial | rfl,ph0_0,hv387,(Sep.m2 (Sep.m2 hS386))⟩
  rw [iteF hc383] at hF373
  simp only [ze,q2n,qh,jo,f379,qcc,qbq,B0,reduceIte,reduceEqDiff]
  refine zd (v := .ptr b164 (v_1.Part.toNat*5)) rfl ?_
  simp only [qbv,evp,B0,reduceIte,reduceEqDiff]
  refine qac (n:=1) (f:=cI) ([] : List Int) hS382 rfl rfl (fun v389 c390 h391 hv392 hS393 hq388=>?_)
  simp only [f380,z8,qt,Nat.reduceAdd,Nat.zero_add,Nat.add_zero,qq,z2,B0,reduceIte,reduceEqDiff]
  refine zd (v:=lst cI v_1.InStep) rfl ?_
  simp only [qdy,B0,reduceIte,reduceEqDiff]
  obtain ⟨l395,hx396,hF397⟩:=qm hF373
  have hq398:=nwq (fun z hz=>Sep.dj (Sep.m1 (Sep.m2 hS393)) qbn (SlF.rowfp hv392 z hz))
  refine qgt qfi ?_
  refine qaw (f:=cI) hv392 hS393 hW (fun _=>rfl) (fun _=>rfl) (yv (fun _=>rfl)) hx396 (fun v399 c400 h401 hv402 hS403=>?_)
  simp only [k7,qt,zz,z8,Nat.reduceAdd,Nat.zero_add,Nat.add_zero,q9,qdj,B0,reduceIte,reduceEqDiff]
  refine qhl (n:=5) (us:=[v399]) (cs:=[v355,v359,.int .i64 x161.Leader,.int .i64 x161.Epoch,.int .i64 x161.Stamp]) (o:=1) (cs':=[v355,v399,
    .int .i64 x161.Leader,.int .i64 x161.Epoch,
    .int .i64 x161.Stamp]) (kd (SlF.one hv402)) hv351 rfl hx162 (Sep.m1 hS403) hW rfl (qs (SlF.one hv402) zt) (nle rfl) rfl (fun c407 h405 hv408 hS406=>?_)
  simp only [zm,qx7,qh,qf,f379,ql,B0,reduceIte,reduceEqDiff]
  refine qi (v := .ptr b164 (v_1.Part.toNat*5)) rfl ?_
  simp only [kg,qb,zz,qo,Nat.reduceAdd,Nat.zero_add,Nat.add_zero,q9,ql,B0,reduceIte,reduceEqDiff]
  refine qi (v := .int .i64 x161.Stamp) ((SlG.ld (o:=4) hv408 rfl hx162 hS406 (nle rfl)).trans rfl) ?_
  simp only [qv,qb,qaq,kg,zz,qo,Nat.reduceAdd,Nat.zero_add,Nat.add_zero,q9,zl,B0,reduceIte,reduceEqDiff]
  refine qcm (n:=5) (us:=[.int .i64 (IntKind.wrap .i64 (x161.Stamp+1))]) (cs:=[v355,v399,.int .i64 x161.Leader,.int .i64 x161.Epoch,
    .int .i64 x161.Stamp]) (o:=4) (cs':=[v355,v399,.int .i64 x161.Leader,.int .i64 x161.Epoch,
    .int .i64 (IntKind.wrap .i64 (x161.Stamp+1))]) rfl hv408 rfl hx162 hS406 hW rfl rfl (nle rfl) rfl (fun c411 h409 hv412 hS410=>?_)
  simp only [qa,qh,qf,qg,q8,B0,reduceIte,reduceEqDiff]
  simp only [zc,B0,reduceIte,reduceEqDiff]
  simp only [qg,qa,q8,B0,reduceIte,reduceEqDiff]
  obtain ⟨c413,hv414,hS415⟩:=SlG.cls (e':=(Partition.mk x161.Homes l395 x161.Leader x161.Epoch (IntKind.wrap .i64 (x161.Stamp+1)))) (c:=c411) (os:=c356 ++
    (c400)) hv412 rfl hx162 jr (Partition.RI (x:=(Partition.mk x161.Homes l395 x161.Leader x161.Epoch (IntKind.wrap .i64 (x161.Stamp+1)))) hv357 hv402) (Sep.ni2
    (c1:=c356) (c2:=c400) (Sep.m2 (Sep.m3 (Sep.m1 hS410))))
  have hx416:=ym (x':=(Partition.mk x161.Homes l395 x161.Leader x161.Epoch (IntKind.wrap .i64 (x161.Stamp+1)))) hx162
  have hv417:=SlG.toN hv414
  have he:=qj hF397
  subst he
  simp only [zc,B0,reduceIte,reduceEqDiff]
  exact ⟨pc0_0,pv0_1,c413,by first | trivial | rfl,ph0_0,hv417,(Sep.m2 (Sep.m2 (Sep.dc (Sep.m2 hS415))))⟩
 rw [iteF hc159] at hk144
 simp only [ze,xd,qh,qf,qg,qa,q8,B0,reduceIte,reduceEqDiff]
 have he:=qj hk144
 subst he
 simp only [zc,B0,reduceIte,reduceEqDiff]
 exact ⟨pc0_0,pv0_1,pc0_1,by first | trivial | rfl,ph0_0,ph0_1,(Sep.m2 (Sep.m2 (Sep.m2 hS154)))⟩
theorem qcr {W:Nat→Bool}{h:Heap} (hW:∀ b,
  (geL h.length) b→W b=true) (c_0:Control) (list_1:List Int) (r:Int)
  (hF:y9 c_0 list_1=some r) : Ret E W 78 [.agg [lst qe c_0.Brokers,lst qd c_0.Parts,.int .i64 c_0.Next],
  lst cI list_1] h (fun v h'=>cut h.length h' E.sz false 9 v=some (.int .i64 r)):=by
 refine Ret.of (fn:=x78) rfl (Run.of ?_)
 unfold y9 at hF
 have zf0:zj [.agg [lst qe c_0.Brokers,lst qd c_0.Parts,.int .i64 c_0.Next],lst cI list_1] 0 = .agg [lst qe c_0.Brokers,
   lst qd c_0.Parts,.int .i64 c_0.Next]:=rfl
 have zf1:zj [.agg [lst qe c_0.Brokers,lst qd c_0.Parts,.int .i64 c_0.Next],lst cI list_1] 1=lst cI list_1:=rfl
 generalize zj [.agg [lst qe c_0.Brokers,lst qd c_0.Parts,.int .i64 c_0.Next],lst cI list_1]=fr0 at zf0 zf1 ⊢
 have hS:Sep h (geL h.length) []:=Sep.nil h
 simp only [x78,qh,qf,ju,zf0,B0,reduceIte,reduceEqDiff]
 refine je (cs:=[lst qe c_0.Brokers,lst qd c_0.Parts,.int .i64 c_0.Next]) hS rfl rfl rfl (fun b1 h2 hS3=>?_)
 simp only [qg,qa,B0,reduceIte,reduceEqDiff]
 refine zw hS3 hW (by simp only [B0,reduceIte,reduceEqDiff]) (fun h5 hS6=>?_)
 simp only [zv,q1b,qh,qf,zf1,qg,zr,qb,zx,qa,B0,reduceIte,reduceEqDiff]
 obtain ⟨oc9,hX11,hk12⟩:=jd hF
 simp only [qy3]
 refine kn (σ:=Unit) list_1 (fun i7 x8 _=>u6 c_0 i7 x8 ) (fun s fr' h'=>fr' 2 = .ref [lst qe c_0.Brokers,
   lst qd c_0.Parts,.int .i64 c_0.Next] 0∧fr' 7=lst cI list_1∧Sep h' (geL h.length) ([])) hX11 ⟨rfl,rfl,hS6⟩ (by simp only [B0,reduceIte,
   reduceEqDiff]) (by simp only [B0,reduceIte,reduceEqDiff]) (fun _ _ _ h=>h) rfl rfl (fun _ _ _ _ h=>h) (fun _ _ _ _ h=>h) (fun _ _ _ _ h=>h) (by decide) ?_ ?_
 ·rintro i7 x8 _ fr21 h22 hx26 ⟨f24,f25,hS23⟩ f27 f28 oc10 hF13 hr14 Q15 hN16 hB20 hK17 hR18 hE19
  unfold u6 at hF13
  simp only [q2d,qh,qf,f25,f27,jb,B0,reduceIte,reduceEqDiff]
  refine qi (v := .ref (cI x8) 0) (ko hx26 rfl) ?_
  simp only [ql,B0,reduceIte,reduceEqDiff]
  refine qi (v := .int .i64 x8) rfl ?_
  simp only [qg,qa,q4a,qh,qf,f24,qo,qb,Nat.reduceAdd,Nat.zero_add,Nat.add_zero,qq,ql,B0,reduceIte,reduceEqDiff]
  refine qi (v:=lst qe c_0.Brokers) rfl ?_
  obtain ⟨x29,hx30,hF31⟩:=qm hF13
  simp only [qg,jb,B0,reduceIte,reduceEqDiff]
  refine qi (v := .ref (qe x29) 0) (xx hx30 rfl) ?_
  simp only [qo,qb,Nat.reduceAdd,Nat.zero_add,Nat.add_zero,qq,ql,B0,reduceIte,reduceEqDiff]
  refine qi (v := .bool x29.Fenced) rfl ?_
  simp only [ja,qb,jq,qa,qyx,qy,B0,reduceIte,reduceEqDiff]
  refine qw (t:=(!x29.Fenced)) (fun hc32=>?_) (fun hc32=>?_)
  ·rw [iteT hc32] at hF31
   simp only [qh,qf,qg,qa,q8,B0,reduceIte,reduceEqDiff]
   have e33:=qj hF31
   subst e33
   have ho34:=hr14 _ rfl
   have hk35:=hk12
   rw [ho34] at hk35
   dsimp only [jnO] at hk35
   apply hR18
   have he:=qj hk35
   subst he
   simp only [zc,B0,reduceIte,reduceEqDiff]
   exact rfl
  rw [iteF hc32] at hF31
  simp only [ze,qk,B0,reduceIte,reduceEqDiff]
  have e36:=qj hF31
  exact hN16 _ _ _ e36.symm ⟨f24,f25,hS23⟩ (f27) (f28)
 rintro _ fr38 h39 rfl ⟨f41,f42,hS40⟩
 dsimp only [jnO] at hk12
 unfold qcd at hk12
 simp only [qh,qf,qg,qa,q8,B0,reduceIte,reduceEqDiff]
 have he:=qj hk12
 subst he
 simp only [zc,B0,reduceIte,reduceEqDiff]
 exact rfl
end Go.Proofs.Ytjloihcijdcpeaa.X
namespace Go.Proofs.Ytjloihcijdcpeaa.X
open Go
open Nat (reduceEqDiff)
theorem qjl {W:Nat→Bool}{h:Heap} (hW:∀ b,
  (geL h.length) b→W b=true) (v_0:Control) (v_1:Command) (r:Control × Int) (hF:qbo v_0 v_1=some r) : Ret E W 49 [.agg [lst qe v_0.Brokers,
  lst qd v_0.Parts,.int .i64 v_0.Next],.agg [.int .i64 v_1.Kind,.int .i64 v_1.Broker,.int .i64 v_1.Epoch,.int .i64 v_1.Part,.int .i64 v_1.Stamp,
  lst cI v_1.InStep]] h (fun v h'=>∃ rv0_0 rc0_0 rv0_1 rc0_1,v = .tup [.agg [rv0_0,rv0_1,.int .i64 r.1.Next],
  .int .i64 r.2]∧SlF qe 3 86 rv0_0 r.1.Brokers rc0_0∧SlN Partition.R 5 39 rv0_1 r.1.Parts rc0_1∧Sep h' (geL h.length) (rc0_0++(rc0_1++([])))):=by
 refine Ret.of (fn:=x49) rfl (Run.of ?_)
 unfold qbo at hF
 have zf0:zj [.agg [lst qe v_0.Brokers,lst qd v_0.Parts,.int .i64 v_0.Next],.agg [.int .i64 v_1.Kind,.int .i64 v_1.Broker,.int .i64 v_1.Epoch,
   .int .i64 v_1.Part,.int .i64 v_1.Stamp,lst cI v_1.InStep]] 0 = .agg [lst qe v_0.Brokers,lst qd v_0.Parts,.int .i64 v_0.Next]:=rfl
 have zf1:zj [.agg [lst qe v_0.Brokers,lst qd v_0.Parts,.int .i64 v_0.Next],.agg [.int .i64 v_1.Kind,.int .i64 v_1.Broker,.int .i64 v_1.Epoch,
   .int .i64 v_1.Part,.int .i64 v_1.Stamp,lst cI v_1.InStep]] 1 = .agg [.int .i64 v_1.Kind,.int .i64 v_1.Broker,.int .i64 v_1.Epoch,.int .i64 v_1.Part,
   .int .i64 v_1.Stamp,lst cI v_1.InStep]:=rfl
 generalize zj [.agg [lst qe v_0.Brokers,lst qd v_0.Parts,.int .i64 v_0.Next],.agg [.int .i64 v_1.Kind,.int .i64 v_1.Broker,.int .i64 v_1.Epoch,
   .int .i64 v_1.Part,.int .i64 v_1.Stamp,lst cI v_1.InStep]]=fr0 at zf0 zf1 ⊢
 have hS:Sep h (geL h.length) []:=Sep.nil h
 simp only [x49,qh,qf,ju,zf0,B0,reduceIte,reduceEqDiff]
 refine je (cs:=[lst qe v_0.Brokers,lst qd v_0.Parts,.int .i64 v_0.Next]) hS rfl rfl rfl (fun b1 h2 hS3=>?_)
 simp only [ju,zf1,B0,reduceIte,reduceEqDiff]
 refine je (cs:=[.int .i64 v_1.Kind,.int .i64 v_1.Broker,.int .i64 v_1.Epoch,.int .i64 v_1.Part,.int .i64 v_1.Stamp,
   lst cI v_1.InStep]) hS3 rfl rfl rfl (fun b5 h6 hS7=>?_)
 simp only [jg,B0,reduceIte,reduceEqDiff]
 refine z1 hS7 (fun b9 h10 hS11=>?_)
 simp only [qg,qa,B0,reduceIte,reduceEqDiff]
 refine zw (Sep.m2 hS11) hW (by simp only [B0,reduceIte,reduceEqDiff]) (fun h13 hS14=>?_)
 refine zw (Sep.m1 hS14) hW (by simp only [B0,reduceIte,reduceEqDiff]) (fun h15 hS16=>?_)
 simp only [zv,qp7,qh,qf,ql,B0,reduceIte,reduceEqDiff]
 refine qi (v := .agg [lst qe v_0.Brokers,lst qd v_0.Parts,.int .i64 v_0.Next]) rfl ?_
 obtain ⟨v17,hx18,hF19⟩:=qm hF
 simp only [zb,B0,reduceIte,reduceEqDiff]
 refine u9 rfl hS16 (qn (jf (qn zo (qn zo (qn qu zg)))) zg) (qcv (fun b hb=>decide_eq_true hb) v_0 v17 hx18) ?_
 rintro _ h28 ⟨v20,c21,v24,c25,rfl,hv22,hv26,hS29⟩
 refine ⟨_,qgb (qs (SlF.free1 hv22) (qs (SlN.free1 hv26) (qs rfl zt))),hS29,(j0 (SlF.pf hv22 (fun _=>rfl)) (j0 (SlN.pf hv26 Partition.RO) wt)),
   fun h30 hS31=>?_⟩
 have hS32:Sep h30 (geL h.length) (c21++(c25++([Blk1 b9 [.nil,.nil,.int .i64 0] 29]++([])))):=by simpa only [List.append_assoc,List.nil_append] using hS31
 simp only [jg,B0,reduceIte,reduceEqDiff]
 refine z1 hS32 (fun b33 h34 hS35=>?_)
 simp only [zl,B0,reduceIte,reduceEqDiff]
 refine zf (us:=[v20,v24,.int .i64 v17.Next]) rfl (cs':=[v20,v24,
   .int .i64 v17.Next]) hS35 hW rfl (qs (SlF.one hv22) (qs (SlN.one hv26) (qs rfl zt))) (nle rfl) rfl (fun h37 hS38=>?_)
 simp only [qa,qtj,qh,qf,ql,B0,reduceIte,reduceEqDiff]
 refine qi (v := .agg [.int .i64 v_1.Kind,.int .i64 v_1.Broker,.int .i64 v_1.Epoch,.int .i64 v_1.Part,.int .i64 v_1.Stamp,lst cI v_1.InStep]) rfl ?_
 obtain ⟨v39,hx40,hF41⟩:=qm hF19
 simp only [zb,B0,reduceIte,reduceEqDiff]
 refine kv rfl (qi2 hW b33 v17 v20 c21 hv22 v24 c25 hv26 v_1 v39 hx40 (Sep.m2 (Sep.m2 (Sep.m2 hS38)))) ?_
 rintro _ h48 ⟨c42,v44,c45,rfl,hv43,hv46,hS49⟩
 simp only [qg,qa,qt7,qh,qf,qv,qb,ue,q1i,qy,B0,reduceIte,reduceEqDiff]
 refine qw (t:=(decide (v39.1≠0))) (fun hc50=>?_) (fun hc50=>?_)
 ·rw [iteT hc50] at hF41
  simp only [q07,qh,qf,ql,B0,reduceIte,reduceEqDiff]
  refine qi (v := .agg [lst qe v_0.Brokers,lst qd v_0.Parts,.int .i64 v_0.Next]) rfl ?_
  obtain ⟨v51,hx52,hF53⟩:=qm hF41
  simp only [zb,B0,reduceIte,reduceEqDiff]
  refine u9 rfl hS49 (qn (jf (qn zo (qn zo (qn qu zg)))) zg) (qcv (fun b hb=>decide_eq_true hb) v_0 v51 hx52) ?_
  rintro _ h62 ⟨v54,c55,v58,c59,rfl,hv56,hv60,hS63⟩
  refine ⟨_,qgb (qs (SlF.free1 hv56) (qs (SlN.free1 hv60) (qs rfl zt))),hS63,(j0 (SlF.pf hv56 (fun _=>rfl)) (j0 (SlN.pf hv60 Partition.RO) wt)),
    fun h64 hS65=>?_⟩
  have hS66:Sep h64 (geL h.length) (c55++(c59++([Blk1 b33 [v20,v44,.int .i64 v39.2.Next] 29]++(c42++(c45++([Blk1 b9 [.nil,.nil,
    .int .i64 0] 29]++([]))))))):=by simpa only [List.append_assoc,List.nil_append] using hS65
  simp only [qg,zl,B0,reduceIte,reduceEqDiff]
  refine zf (us:=[v54,v58,.int .i64 v51.Next]) rfl (cs':=[v54,v58,
    .int .i64 v51.Next]) (Sep.m5 hS66) hW rfl (qs (SlF.one hv56) (qs (SlN.one hv60) (qs rfl zt))) (nle rfl) rfl (fun h67 hS68=>?_)
  simp only [qg,qa,q8,B0,reduceIte,reduceEqDiff]
  have he:=qj hF53
  subst he
  refine kc (qn (kr (bb:=b9) (oo:=0) (v := .agg [v54,v58,
    .int .i64 v51.Next]) (rfl) ((z3 (Sep.bk _ _ _ hS68)).trans rfl)) (qn (ye (v := .int .i64 v39.1) (rfl)) zg)) ?_
  exact ⟨v54,c55,v58,c59,by first | trivial | rfl,hv56,hv60,(Sep.m1 (Sep.m1 (Sep.dc (Sep.m2 (Sep.dc (Sep.m2 (Sep.dc (Sep.m2 (Sep.dc (hS68))))))))))⟩
 rw [iteF hc50] at hF41
 simp only [ze,qra,qh,qf,qo,qb,Nat.reduceAdd,Nat.zero_add,Nat.add_zero,q9,ql,B0,reduceIte,reduceEqDiff]
 refine qi (v:=v20) ((z5 (Sep.bk _ _ _ hS49)).trans rfl) ?_
 simp only [zr,qb,SlF.plen hv43,qg,qa,B0,reduceIte,reduceEqDiff]
 obtain ⟨oc77,hX79,hk80⟩:=jd hF41
 simp only [q0f]
 refine wc (σ:=(List Broker)) (fun i75 s109=>qbl i75 s109) (fun s fr' h'=>∃ c73,fr' 2 = .ref [lst qe v_0.Brokers,
   lst qd v_0.Parts,.int .i64 v_0.Next] 0∧fr' 4 = .ptr b9 0∧fr' 6 = .ptr b33 0∧SlF qe 3 86 v20 s c73∧Sep h' (geL h.length) ([Blk1 b9 [.nil,
   .nil,.int .i64 0] 29]++([Blk1 b33 [v20,v44,.int .i64 v39.2.Next] 29]++(c73++(c45++([])))))) hX79 ⟨c42,rfl,rfl,rfl,hv43,
   (Sep.m3 (Sep.m2 (Sep.m2 (Sep.m2 hS49))))⟩ (by simp only [B0,reduceIte,reduceEqDiff]) (by simp only [B0,reduceIte,
   reduceEqDiff]) (fun _ _ _ h=>h) rfl rfl (fun _ _ _ _ h=>h) (fun _ _ _ _ h=>h) (fun _ _ _ _ h=>h) (by decide) ?_ ?_
 ·rintro i75 s72 fr89 h90 hx95 ⟨c73,f92,f93,f94,hv74,hS91⟩ f96 f97 oc78 hF81 hr82 Q83 hN84 hB88 hK85 hR86 hE87
  unfold qbl at hF81
  simp only [qz8,qh,qf,f96,qg,qa,qyy,jo,f94,z8,qt,Nat.reduceAdd,Nat.zero_add,Nat.add_zero,q9,z2,B0,
    reduceIte,reduceEqDiff]
  refine zd (v:=v20) ((z5 (Sep.bk _ _ _ (Sep.m1 hS91))).trans rfl) ?_
  simp only [jl,qt,f94,z8,Nat.reduceAdd,Nat.zero_add,Nat.add_zero,q9,z2,B0,reduceIte,reduceEqDiff]
  refine zd (v:=v20) ((z5 (Sep.bk _ _ _ (Sep.m1 hS91))).trans rfl) ?_
  obtain ⟨x98,hx99,hF100⟩:=qm hF81
  simp only [jl,qt,qam,B0,reduceIte,reduceEqDiff]
  obtain ⟨b101,hb102⟩:=SlF.isrow hv74 (k8 hx99)
  refine zd (SlF.ia hv74 hb102 hx99) ?_
  simp only [z8,qt,Nat.reduceAdd,Nat.zero_add,Nat.add_zero,q9,z2,B0,reduceIte,reduceEqDiff]
  refine zd (v := .int .i64 x98.Left) ((SlF.ld (o:=1) hv74 (Sep.m2 hS91) hb102 hx99 (fun _=>rfl) (nle rfl)).trans rfl) ?_
  simp only [u3,qt,z4,qam,B0,reduceIte,reduceEqDiff]
  refine zd (SlF.ia hv74 hb102 hx99) ?_
  simp only [z8,qt,Nat.reduceAdd,Nat.zero_add,Nat.add_zero,q9,qdj,B0,reduceIte,reduceEqDiff]
  refine qib (f:=qe) (x':=(Broker.mk x98.Epoch x98.Left (decide (x98.Left=0)))) (o:=2) hv74 (Sep.m2 hS91) hW hb102 hx99 (fun _=>rfl) rfl rfl
    (nle rfl) rfl (fun c105 h103 hv106 hS104=>?_)
  have hx107:=ym (x':=(Broker.mk x98.Epoch x98.Left (decide (x98.Left=0)))) hx99
  simp only [zm,qk,B0,reduceIte,reduceEqDiff]
  have e108:=qj hF100
  exact hN84 _ _ _ e108.symm ⟨c105,f92,f93,f94,hv106,(Sep.m3 (Sep.m3 (Sep.m1 (Sep.m3 hS104))))⟩ (f96) (f97)
 rintro s110 fr113 h114 rfl ⟨c111,f116,f117,f118,hv112,hS115⟩
 dsimp only [jnO] at hk80
 unfold qc7 at hk80
 simp only [qu9,qh,qf,f118,qo,qb,Nat.reduceAdd,Nat.zero_add,Nat.add_zero,q9,ql,B0,reduceIte,reduceEqDiff]
 refine qi (v:=v44) ((z5 (Sep.bk _ _ _ (Sep.m1 hS115))).trans rfl) ?_
 simp only [zr,qb,SlN.len hv46,qg,qa,B0,reduceIte,reduceEqDiff]
 obtain ⟨oc127,hX129,hk130⟩:=jd hk80
 simp only [qs5]
 refine wc (σ:=(List Partition)) (fun i125 s412=>y7 v_0 v39 s110 i125 s412) (fun s fr' h'=>∃ c123,fr' 2 = .ref [lst qe v_0.Brokers,
   lst qd v_0.Parts,.int .i64 v_0.Next] 0∧fr' 4 = .ptr b9 0∧fr' 6 = .ptr b33 0∧SlN Partition.R 5 39 v44 s c123∧Sep h' (geL h.length) ([Blk1 b9 [.nil,
   .nil,.int .i64 0] 29]++([Blk1 b33 [v20,v44,.int .i64 v39.2.Next] 29]++(c111++(c123++([])))))) hX129 ⟨c45,f116,f117,f118,hv46,
   (Sep.m3 (Sep.m3 (Sep.m3 (Sep.m3 hS115))))⟩ (by simp only [B0,reduceIte,reduceEqDiff]) (by simp only [B0,reduceIte,
   reduceEqDiff]) (fun _ _ _ h=>h) rfl rfl (fun _ _ _ _ h=>h) (fun _ _ _ _ h=>h) (fun _ _ _ _ h=>h) (by decide) ?_ ?_
 ·rintro i125 s122 fr139 h140 hx145 ⟨c123,f142,f143,f144,hv124,hS141⟩ f146 f147 oc128 hF131 hr132 Q133 hN134 hB138 hK135 hR136 hE137
  unfold y7 at hF131
  simp only [qui,qh,qf,f146,qg,qa,qvu,f144,qo,qb,Nat.reduceAdd,Nat.zero_add,Nat.add_zero,q9,ql,B0,reduceIte,
    reduceEqDiff]
  refine qi (v:=v44) ((z5 (Sep.bk _ _ _ (Sep.m1 hS141))).trans rfl) ?_
  obtain ⟨x148,hx149,hF150⟩:=qm hF131
  simp only [qg,jb,B0,reduceIte,reduceEqDiff]
  obtain ⟨b151,hb152⟩:=SlN.isrow hv124 (k8 hx149)
  refine qi (SlN.ia hv124 hb152 hx149) ?_
  obtain ⟨c153,cs154,os155,hv156,hR157,hS158⟩:=SlG.opn (SlN.toG hv124 hb152 Partition.RO.len) hx149 jr Partition.RO.len (Sep.m3 hS141)
  obtain ⟨v160,c161,v164,c165,hv162,hv166,rfl,rfl⟩:=hR157
  have hS159:=Sep.no2 hS158
  simp only [qg,qa,qrv,qh,jo,jl,qt,k7,zz,z8,Nat.reduceAdd,Nat.zero_add,Nat.add_zero,q9,z2,B0,
    reduceIte,reduceEqDiff]
  refine zd (v := .int .i64 x148.Leader) ((SlG.ld (o:=2) hv156 rfl hx149 hS159 (nle rfl)).trans rfl) ?_
  simp only [u3,qt,z4,jl,B0,reduceIte,reduceEqDiff]
  obtain ⟨v171,hx172,hF173⟩:=qm hF150
  refine qie 10 (fun fr' h'=>Sep h' (geL h.length) ([Blk1 b9 [.nil,.nil,.int .i64 0] 29]++([Blk1 b33 [v20,v44,
    .int .i64 v39.2.Next] 29]++(c153++(c111++(c161++(c165++([])))))))∧fr' 64 = .bool v171∧fr' 2 = .ref [lst qe v_0.Brokers,
    lst qd v_0.Parts,.int .i64 v_0.Next] 0∧fr' 4 = .ptr b9 0∧fr' 6 = .ptr b33 0∧fr' 9 = .int .i64 (i125:Int)∧fr' 10 = .ptr b151
    ((i125:Int).toNat*5)∧fr' 41 = .int .i64 (List.length v39.2.Parts:Int)∧fr' 42 = .int .i64 (i125:Int)) rfl (fun Q168 hN169=>?_) ?_
  ·simp only [List.take_succ_cons,List.take_zero]
   simp only [zk (g:=54),B0,reduceIte,reduceEqDiff]
   refine yk (t:=(decide (x148.Leader=(-1)))) (fun hg170=>?_) (fun hg170=>?_)
   ·rw [iteT hg170] at hx172
    simp only [hg170,zk (g:=54),wx,yj,qt,zh,zm,qk,B0,reduceIte,reduceEqDiff]
    have e174:=qj hx172
    exact hN169 _ _ ⟨(Sep.m5 (Sep.m5 (Sep.m3 (Sep.m5 (Sep.m2 (Sep.m2 hS159)))))),by rw [←e174]; simp only [B0,reduceIte,reduceEqDiff],f142,f143,f144,rfl,rfl,f147,
      f146⟩
   ·rw [iteF hg170] at hx172
    simp only [hg170,zk (g:=54),z0,f144,z8,qt,Nat.reduceAdd,Nat.zero_add,Nat.add_zero,q9,z2,B0,reduceIte,reduceEqDiff]
    refine zd (v:=v20) ((z5 (Sep.bk _ _ _ (Sep.m4 hS159))).trans rfl) ?_
    simp only [hg170,zk (g:=54),z0,jl,qt,k7,zz,z8,Nat.reduceAdd,Nat.zero_add,Nat.add_zero,q9,z2,B0,reduceIte,
      reduceEqDiff]
    refine zd (v := .int .i64 x148.Leader) ((SlG.ld (o:=2) hv156 rfl hx149 hS159 (nle rfl)).trans rfl) ?_
    obtain ⟨x175,hx176,hF177⟩:=qm hx172
    simp only [hg170,zk (g:=54),z0,qam,B0,reduceIte,reduceEqDiff]
    obtain ⟨b178,hb179⟩:=SlF.isrow hv112 (k8 hx176)
    refine zd (SlF.ia hv112 hb179 hx176) ?_
    simp only [hg170,zk (g:=54),z0,z8,qt,Nat.reduceAdd,Nat.zero_add,Nat.add_zero,q9,z2,B0,reduceIte,reduceEqDiff]
    refine zd (v := .bool x175.Fenced) ((SlF.ld (o:=2) hv112 (Sep.m5 hS159) hb179 hx176 (fun _=>rfl) (nle rfl)).trans rfl) ?_
    simp only [hg170,yj,qt,zi,zm,qk,B0,reduceIte,reduceEqDiff]
    have e180:=qj hF177
    exact hN169 _ _ ⟨(Sep.m5 (Sep.m5 (Sep.m3 (Sep.m5 (Sep.m2 (Sep.m2 hS159)))))),by rw [←e180]; simp only [B0,reduceIte,reduceEqDiff],f142,f143,f144,rfl,rfl,f147,
      f146⟩
  rintro fr181 h190 ⟨hS191,f182,f183,f184,f185,f186,f187,f188,f189⟩
  simp only [List.drop_succ_cons,List.drop_zero]
  simp only [zm,qyi,f182,qy,B0,reduceIte,reduceEqDiff]
  obtain ⟨c192,hv193,hS194⟩:=SlG.cls0 (c:=c153) (os:=c161++(c165)) hv156 rfl hx149 jr (Partition.RI (x:=x148) hv162 hv166) (Sep.ni2 (c1:=c161) (c2:=c165)
    (Sep.m4 (Sep.m5 (Sep.m5 hS191))))
  have hv195:=SlG.toN hv193
  obtain ⟨s196,hX200,hk201⟩:=qm hF173
  refine xq (t:=v171) (fun fr' h'=>∃ c197,fr' 2 = .ref [lst qe v_0.Brokers,lst qd v_0.Parts,
    .int .i64 v_0.Next] 0∧fr' 4 = .ptr b9 0∧fr' 6 = .ptr b33 0∧fr' 9 = .int .i64 (i125:Int)∧fr' 10 = .ptr b151 ((i125:Int).toNat*5)∧fr' 41 = .int .i64
    (List.length v39.2.Parts:Int)∧fr' 42 = .int .i64 (i125:Int)∧SlN Partition.R 5 39 v44 s196 c197∧Sep h' (geL h.length) ([Blk1 b9 [.nil,.nil,
    .int .i64 0] 29]++([Blk1 b33 [v20,v44,.int .i64 v39.2.Next] 29]++(c197++(c111++([])))))) (fun Q202 hN203 hR204 hE205=>⟨fun hc206=>?_,fun hc206=>?_⟩) ?_
  ·rw [iteT hc206] at hX200
   simp only [q2s,jo,f187,qj1,qt,f185,z2,B0,reduceIte,reduceEqDiff]
   refine zd (v := .agg [v20,v44,.int .i64 v39.2.Next]) ((z3 (Sep.bk _ _ _ (Sep.m2 hS194))).trans rfl) ?_
   obtain ⟨c207,cs208,os209,hv210,hR211,hS212⟩:=SlG.opn (SlN.toG hv195 hb152 Partition.RO.len) hx149 jr Partition.RO.len hS194
   obtain ⟨v214,c215,v218,c219,hv216,hv220,rfl,rfl⟩:=hR211
   have hS213:=Sep.no2 hS212
   simp only [f187,jl,qt,k7,zz,z8,Nat.reduceAdd,Nat.zero_add,Nat.add_zero,q9,z2,B0,reduceIte,reduceEqDiff]
   refine zd (v:=v218) ((SlG.ld (o:=1) hv210 rfl hx149 hS213 (nle rfl)).trans rfl) ?_
   obtain ⟨c222,hv223,hS224⟩:=SlG.cls0 (c:=c207) (os:=c215++(c219)) hv210 rfl hx149 jr (Partition.RI (x:=x148) hv216 hv220) (Sep.ni2 (c1:=c215) (c2:=c219)
     (Sep.m2 (Sep.m2 (Sep.m2 hS213))))
   have hv225:=SlG.toN hv223
   obtain ⟨v226,hx227,hF228⟩:=qm hX200
   simp only [xz,B0,reduceIte,reduceEqDiff]
   refine qf6 rfl (qn (jf (qn (SlF.snap hv112 (Sep.m3 hS224) rfl (fun _=>rfl) (fun _=>rfl)) (qn (SlN.snap hv225 _ hS224 rfl Partition.RO)
     (qn qu zg)))) (qn (SlF.snap hv220 (Sep.m2 hS213) rfl (fun _=>rfl) (fun _=>rfl)) zg)) (qcr (fun b hb=>decide_eq_true hb)
     (Control.mk s110 s122 v39.2.Next) x148.InStep v226 hx227) ?_
   simp only [k7,qt,zz,z8,Nat.reduceAdd,Nat.zero_add,Nat.add_zero,q9,qdj,B0,reduceIte,reduceEqDiff]
   refine qhl (n:=5) (us:=[.int .i64 v226]) (cs:=[v214,v218,.int .i64 x148.Leader,.int .i64 x148.Epoch,.int .i64 x148.Stamp]) (o:=2) (cs':=[v214,v218,
     .int .i64 v226,.int .i64 x148.Epoch,.int .i64 x148.Stamp]) rfl hv210 rfl hx149 hS213 hW rfl rfl (nle rfl) rfl (fun c231 h229 hv232 hS230=>?_)
   simp only [zm,qk,B0,reduceIte,reduceEqDiff]
   obtain ⟨c233,hv234,hS235⟩:=SlG.cls (e':=(Partition.mk x148.Homes x148.InStep v226 x148.Epoch x148.Stamp)) (c:=c231) (os:=c215++(c219)) hv232 rfl hx149 jr
     (Partition.RI (x:=(Partition.mk x148.Homes x148.InStep v226 x148.Epoch x148.Stamp)) hv216 hv220) (Sep.ni2 (c1:=c215) (c2:=c219) (Sep.m2 (Sep.m2 (Sep.m2 hS230))))
   have hx236:=ym (x':=(Partition.mk x148.Homes x148.InStep v226 x148.Epoch x148.Stamp)) hx149
   have hv237:=SlG.toN hv234
   have e238:=qj hF228
   subst e238
   exact hN203 _ _ ⟨c233,f183,f184,f185,f186,f187,f188,f189,hv237,(Sep.m3 (Sep.m3 (Sep.m1 (Sep.m3 hS235))))⟩
  ·rw [iteF hc206] at hX200
   simp only [ze,qk,B0,reduceIte,reduceEqDiff]
   have e239:=qj hX200
   subst e239
   exact hN203 _ _ ⟨c192,f183,f184,f185,f186,f187,f188,f189,hv195,(Sep.m3 (Sep.m3 (Sep.m1 (Sep.m3 hS194))))⟩
  rintro fr240 h241 ⟨c197,f243,f244,f245,f246,f247,f248,f249,hv198,hS242⟩
  unfold qc8 at hk201
  simp only [qp9,qh,jo,f246,jl,qt,f243,z8,Nat.reduceAdd,Nat.zero_add,Nat.add_zero,qq,z2,B0,reduceIte,reduceEqDiff]
  refine zd (v:=lst qd v_0.Parts) rfl ?_
  simp only [qj5,qt,zx,u3,qby,jl,B0,reduceIte,reduceEqDiff]
  obtain ⟨v253,hx254,hF255⟩:=qm hk201
  refine qie 12 (fun fr' h'=>Sep h' (geL h.length) ([Blk1 b9 [.nil,.nil,.int .i64 0] 29]++([Blk1 b33 [v20,v44,
    .int .i64 v39.2.Next] 29]++(c197++(c111++([])))))∧fr' 91 = .bool v253∧fr' 2 = .ref [lst qe v_0.Brokers,lst qd v_0.Parts,
    .int .i64 v_0.Next] 0∧fr' 4 = .ptr b9 0∧fr' 6 = .ptr b33 0∧fr' 10 = .ptr b151 ((i125:Int).toNat*5)∧fr' 41 = .int .i64
    (List.length v39.2.Parts:Int)∧fr' 42 = .int .i64 (i125:Int)) rfl (fun Q250 hN251=>?_) ?_
  ·simp only [List.take_succ_cons,List.take_zero]
   simp only [zk (g:=79),B0,reduceIte,reduceEqDiff]
   refine yk (t:=(decide ((List.length v_0.Parts:Int)≤(i125:Int)))) (fun hg252=>?_) (fun hg252=>?_)
   ·rw [iteT hg252] at hx254
    simp only [hg252,zk (g:=79),wx,yj,qt,zh,zm,qk,B0,reduceIte,reduceEqDiff]
    have e256:=qj hx254
    exact hN251 _ _ ⟨(Sep.m3 (Sep.m3 (Sep.m3 (Sep.m3 hS242)))),by rw [←e256]; simp only [B0,reduceIte,reduceEqDiff],f243,f244,f245,f247,f248,f249⟩
   ·rw [iteF hg252] at hx254
    obtain ⟨x257,hx258,hF259⟩:=qm hx254
    obtain ⟨c260,cs261,os262,hv263,hR264,hS265⟩:=SlG.opn (SlN.toG hv198 hb152 Partition.RO.len) hx258 jr Partition.RO.len (Sep.m2 hS242)
    obtain ⟨v267,c268,v271,c272,hv269,hv273,rfl,rfl⟩:=hR264
    have hS266:=Sep.no2 hS265
    simp only [hg252,zk (g:=79),z0,f247,jl,qt,k7,zz,z8,Nat.reduceAdd,Nat.zero_add,Nat.add_zero,q9,z2,B0,
      reduceIte,reduceEqDiff]
    refine zd (v := .int .i64 x257.Leader) ((SlG.ld (o:=2) hv263 rfl hx258 hS266 (nle rfl)).trans rfl) ?_
    simp only [hg252,zk (g:=79),z0,f243,z8,qt,Nat.reduceAdd,Nat.zero_add,Nat.add_zero,qq,z2,B0,reduceIte,reduceEqDiff]
    refine zd (v:=lst qd v_0.Parts) rfl ?_
    obtain ⟨x275,hx276,hF277⟩:=qm hF259
    simp only [hg252,zk (g:=79),z0,f246,jl,qt,qam,B0,reduceIte,reduceEqDiff]
    refine zd (v := .ref (qd x275) 0) (xx hx276 rfl) ?_
    simp only [hg252,zk (g:=79),z0,z8,qt,Nat.reduceAdd,Nat.zero_add,Nat.add_zero,qq,z2,B0,reduceIte,reduceEqDiff]
    refine zd (v := .int .i64 x275.Leader) rfl ?_
    simp only [hg252,zk (g:=79),z0,u3,qt,ue,yj,zi,zm,qk,B0,reduceIte,reduceEqDiff]
    have e278:=qj hF277
    exact hN251 _ _ ⟨(Sep.m3 (Sep.m3 (Sep.m3 (Sep.m3 hS242)))),by rw [←e278]; simp only [B0,reduceIte,reduceEqDiff],f243,f244,f245,f247,f248,f249⟩
  rintro fr279 h287 ⟨hS288,f280,f281,f282,f283,f284,f285,f286⟩
  simp only [List.drop_succ_cons,List.drop_zero]
  simp only [zm,qs3,f280,qy,B0,reduceIte,reduceEqDiff]
  obtain ⟨s289,hX293,hk294⟩:=qm hF255
  refine xq (t:=v253) (fun fr' h'=>∃ c290,fr' 2 = .ref [lst qe v_0.Brokers,lst qd v_0.Parts,
    .int .i64 v_0.Next] 0∧fr' 4 = .ptr b9 0∧fr' 6 = .ptr b33 0∧fr' 10 = .ptr b151 ((i125:Int).toNat*5)∧fr' 41 = .int .i64
    (List.length v39.2.Parts:Int)∧fr' 42 = .int .i64 (i125:Int)∧SlN Partition.R 5 39 v44 s289 c290∧Sep h' (geL h.length) ([Blk1 b9 [.nil,.nil,
    .int .i64 0] 29]++([Blk1 b33 [v20,v44,.int .i64 v39.2.Next] 29]++(c290++(c111++([])))))) (fun Q295 hN296 hR297 hE298=>⟨fun hc299=>?_,fun hc299=>?_⟩) ?_
  ·rw [iteT hc299] at hX293
   obtain ⟨x300,hx301,hF302⟩:=qm hX293
   obtain ⟨c303,cs304,os305,hv306,hR307,hS308⟩:=SlG.opn (SlN.toG hv198 hb152 Partition.RO.len) hx301 jr Partition.RO.len (Sep.m2 hS288)
   obtain ⟨v310,c311,v314,c315,hv312,hv316,rfl,rfl⟩:=hR307
   have hS309:=Sep.no2 hS308
   simp only [qq5,qh,qf,f284,qg,kg,qb,zz,qo,Nat.reduceAdd,Nat.zero_add,Nat.add_zero,q9,ql,B0,reduceIte,
     reduceEqDiff]
   refine qi (v := .int .i64 x300.Stamp) ((SlG.ld (o:=4) hv306 rfl hx301 hS309 (nle rfl)).trans rfl) ?_
   simp only [qv,qb,qaq,kg,zz,qo,Nat.reduceAdd,Nat.zero_add,Nat.add_zero,q9,zl,B0,reduceIte,reduceEqDiff]
   refine qcm (n:=5) (us:=[.int .i64 (IntKind.wrap .i64 (x300.Stamp+1))]) (cs:=[v310,v314,.int .i64 x300.Leader,.int .i64 x300.Epoch,
     .int .i64 x300.Stamp]) (o:=4) (cs':=[v310,v314,.int .i64 x300.Leader,.int .i64 x300.Epoch,
     .int .i64 (IntKind.wrap .i64 (x300.Stamp+1))]) rfl hv306 rfl hx301 hS309 hW rfl rfl (nle rfl) rfl (fun c320 h318 hv321 hS319=>?_)
   simp only [qa,qqg,qh,qf,f284,qg,kg,qb,zz,qo,Nat.reduceAdd,Nat.zero_add,Nat.add_zero,q9,ql,B0,
     reduceIte,reduceEqDiff]
   refine qi (v := .int .i64 x300.Leader) ((SlG.ld (o:=2) hv321 rfl hx301 hS319 (nle rfl)).trans rfl) ?_
   simp only [qv,qb,ue,qa,qse,qy,B0,reduceIte,reduceEqDiff]
   refine qw (t:=(decide (x300.Leader≠(-1)))) (fun hc322=>?_) (fun hc322=>?_)
   ·rw [iteT hc322] at hF302
    simp only [q21,qf,f284,qg,kg,qb,zz,qo,Nat.reduceAdd,Nat.zero_add,Nat.add_zero,q9,ql,B0,reduceIte,reduceEqDiff]
    refine qi (v := .int .i64 x300.Epoch) ((SlG.ld (o:=3) hv321 rfl hx301 hS319 (nle rfl)).trans rfl) ?_
    simp only [qv,qb,qaq,kg,zz,qo,Nat.reduceAdd,Nat.zero_add,Nat.add_zero,q9,zl,B0,reduceIte,reduceEqDiff]
    refine qcm (n:=5) (us:=[.int .i64 (IntKind.wrap .i64 (x300.Epoch+1))]) (cs:=[v310,v314,.int .i64 x300.Leader,.int .i64 x300.Epoch,
      .int .i64 (IntKind.wrap .i64 (x300.Stamp+1))]) (o:=3) (cs':=[v310,v314,.int .i64 x300.Leader,.int .i64 (IntKind.wrap .i64 (x300.Epoch+1)),
      .int .i64 (IntKind.wrap .i64 (x300.Stamp+1))]) rfl hv321 rfl hx301 hS319 hW rfl rfl (nle rfl) rfl (fun c325 h323 hv326 hS324=>?_)
    simp only [qa,qk,B0,reduceIte,reduceEqDiff]
    obtain ⟨c327,hv328,hS329⟩:=SlG.cls (e':=(Partition.mk x300.Homes x300.InStep x300.Leader (IntKind.wrap .i64 (x300.Epoch+1)) (IntKind.wrap .i64 (x300.Stamp+1))))
      (c:=c325) (os:=c311++(c315)) hv326 rfl hx301 jr (Partition.RI (x:=(Partition.mk x300.Homes x300.InStep x300.Leader (IntKind.wrap .i64 (x300.Epoch+1))
      (IntKind.wrap .i64 (x300.Stamp+1)))) hv312 hv316) (Sep.ni2 (c1:=c311) (c2:=c315) (Sep.m2 (Sep.m2 (Sep.m2 hS324))))
    have hx330:=ym (x':=(Partition.mk x300.Homes x300.InStep x300.Leader (IntKind.wrap .i64 (x300.Epoch+1)) (IntKind.wrap .i64 (x300.Stamp+1)))) hx301
    have hv331:=SlG.toN hv328
    have e332:=qj hF302
    subst e332
    exact hN296 _ _ ⟨c327,f281,f282,f283,f284,f285,f286,hv331,(Sep.m3 (Sep.m3 (Sep.m1 (Sep.m3 hS329))))⟩
   rw [iteF hc322] at hF302
   simp only [ze,qk,B0,reduceIte,reduceEqDiff]
   obtain ⟨c333,hv334,hS335⟩:=SlG.cls (e':=(Partition.mk x300.Homes x300.InStep x300.Leader x300.Epoch (IntKind.wrap .i64 (x300.Stamp+1)))) (c:=c320) (os:=c311 ++
     (c315)) hv321 rfl hx301 jr (Partition.RI (x:=(Partition.mk x300.Homes x300.InStep x300.Leader x300.Epoch (IntKind.wrap .i64 (x300.Stamp+1)))) hv312 hv316)
     (Sep.ni2 (c1:=c311) (c2:=c315) (Sep.m2 (Sep.m2 (Sep.m2 hS319))))
   have hx336:=ym (x':=(Partition.mk x300.Homes x300.InStep x300.Leader x300.Epoch (IntKind.wrap .i64 (x300.Stamp+1)))) hx301
   have hv337:=SlG.toN hv334
   have e338:=qj hF302
   subst e338
   exact hN296 _ _ ⟨c333,f281,f282,f283,f284,f285,f286,hv337,(Sep.m3 (Sep.m3 (Sep.m1 (Sep.m3 hS335))))⟩
  ·rw [iteF hc299] at hX293
   simp only [ze,qk,B0,reduceIte,reduceEqDiff]
   have e339:=qj hX293
   subst e339
   exact hN296 _ _ ⟨c197,f281,f282,f283,f284,f285,f286,hv198,(Sep.m3 (Sep.m3 (Sep.m3 (Sep.m3 hS288))))⟩
  rintro fr340 h341 ⟨c290,f343,f344,f345,f346,f347,f348,hv291,hS342⟩
  unfold qbm at hk294
  obtain ⟨x349,hx350,hF351⟩:=qm hk294
  obtain ⟨c352,cs353,os354,hv355,hR356,hS357⟩:=SlG.opn (SlN.toG hv291 hb152 Partition.RO.len) hx350 jr Partition.RO.len (Sep.m2 hS342)
  obtain ⟨v359,c360,v363,c364,hv361,hv365,rfl,rfl⟩:=hR356
  have hS358:=Sep.no2 hS357
  simp only [qri,qh,qf,f346,qg,kg,qb,zz,qo,Nat.reduceAdd,Nat.zero_add,Nat.add_zero,q9,ql,B0,reduceIte,
    reduceEqDiff]
  refine qi (v := .int .i64 x349.Stamp) ((SlG.ld (o:=4) hv355 rfl hx350 hS358 (nle rfl)).trans rfl) ?_
  simp only [qv,qb,qet,qg,B0,reduceIte,reduceEqDiff]
  refine zu 6 (fun fr' h'=>Sep h' (geL h.length) ([Blk1 b9 [.nil,.nil,.int .i64 0] 29]++([Blk1 b33 [v20,v44,
    .int .i64 v39.2.Next] 29]++(c111++(c352++(c360++(c364++([])))))))∧fr' 122 = .bool ((decide ((1000:Int)<x349.Stamp))||(decide
    ((1000:Int)<x349.Epoch)))∧fr' 2 = .ref [lst qe v_0.Brokers,lst qd v_0.Parts,
    .int .i64 v_0.Next] 0∧fr' 4 = .ptr b9 0∧fr' 6 = .ptr b33 0∧fr' 41 = .int .i64 (List.length v39.2.Parts:Int)∧fr' 42 = .int .i64 (i125:Int))
    (fun Q367 hN368=>?_) ?_
  ·simp only [List.take_succ_cons,List.take_zero]
   simp only [qc (g:=116),B0,reduceIte,reduceEqDiff]
   refine qx (t:=(decide ((1000:Int)<x349.Stamp))) (fun hg369=>?_) (fun hg369=>?_)
   ·simp only [hg369,qc (g:=116),zq,qr,qb,zh,qa,qk,B0,reduceIte,reduceEqDiff]
    exact hN368 _ _ ⟨(Sep.m5 (Sep.m5 (Sep.m5 (Sep.m2 (Sep.m2 (Sep.m2 hS358)))))),by rw [orT hg369]; simp only [B0,reduceIte,reduceEqDiff],f343,f344,f345,f347,f348⟩
   ·simp only [hg369,qc (g:=116),qp,f346,qg,kg,qb,zz,qo,Nat.reduceAdd,Nat.zero_add,Nat.add_zero,q9,ql,B0,
     reduceIte,reduceEqDiff]
    refine qi (v := .int .i64 x349.Epoch) ((SlG.ld (o:=3) hv355 rfl hx350 hS358 (nle rfl)).trans rfl) ?_
    simp only [hg369,qc (g:=116),qp,qv,qb,qet,qr,zi,qa,qk,B0,reduceIte,reduceEqDiff]
    exact hN368 _ _ ⟨(Sep.m5 (Sep.m5 (Sep.m5 (Sep.m2 (Sep.m2 (Sep.m2 hS358)))))),by rw [orF hg369]; simp only [B0,reduceIte,reduceEqDiff],f343,f344,f345,f347,f348⟩
  rintro fr370 h377 ⟨hS378,f371,f372,f373,f374,f375,f376⟩
  simp only [List.drop_succ_cons,List.drop_zero]
  simp only [qa,qup,f371,qy,B0,reduceIte,reduceEqDiff]
  refine qw (t:=((decide ((1000:Int)<x349.Stamp))||(decide ((1000:Int)<x349.Epoch)))) (fun hc379=>?_) (fun hc379=>?_)
  ·rw [iteT hc379] at hF351
   simp only [qpj,qh,qf,f372,ql,B0,reduceIte,reduceEqDiff]
   refine qi (v := .agg [lst qe v_0.Brokers,lst qd v_0.Parts,.int .i64 v_0.Next]) rfl ?_
   obtain ⟨v380,hx381,hF382⟩:=qm hF351
   simp only [zb,B0,reduceIte,reduceEqDiff]
   refine u9 rfl hS378 (qn (jf (qn zo (qn zo (qn qu zg)))) zg) (qcv
     (fun b hb=>decide_eq_true hb) v_0 v380 hx381) ?_
   rintro _ h391 ⟨v383,c384,v387,c388,rfl,hv385,hv389,hS392⟩
   refine ⟨_,qgb (qs (SlF.free1 hv385) (qs (SlN.free1 hv389) (qs rfl zt))),hS392,
     (j0 (SlF.pf hv385 (fun _=>rfl)) (j0 (SlN.pf hv389 Partition.RO) wt)),fun h393 hS394=>?_⟩
   have hS395:Sep h393 (geL h.length) (c384++(c388++([Blk1 b9 [.nil,.nil,.int .i64 0] 29]++([Blk1 b33 [v20,v44,
     .int .i64 v39.2.Next] 29]++(c111++(c352++(c360++(c364++([]))))))))):=by simpa only [List.append_assoc,List.nil_append] using hS394
   simp only [f373,zl,B0,reduceIte,reduceEqDiff]
   refine zf (us:=[v383,v387,.int .i64 v380.Next]) rfl (cs':=[v383,v387,
     .int .i64 v380.Next]) (Sep.m2 hS395) hW rfl (qs (SlF.one hv385) (qs (SlN.one hv389) (qs rfl zt))) (nle rfl) rfl (fun h396 hS397=>?_)
   simp only [qg,qa,q8,B0,reduceIte,reduceEqDiff]
   have e398:=qj hF382
   subst e398
   have ho399:=hr132 _ rfl
   have hk400:=hk130
   rw [ho399] at hk400
   dsimp only [jnO] at hk400
   apply hR136
   obtain ⟨c401,hv402,hS403⟩:=SlG.cls0 (c:=c352) (os:=c360++(c364)) hv355 rfl hx350 jr (Partition.RI (x:=x349) hv361 hv365) (Sep.ni2 (c1:=c360) (c2:=c364)
     (Sep.m7 (Sep.m7 (Sep.m7 hS397))))
   have hv404:=SlG.toN hv402
   have he:=qj hk400
   subst he
   refine kc (qn (kr (bb:=b9) (oo:=0) (v := .agg [v383,v387,
     .int .i64 v380.Next]) (f373) ((z3 (Sep.bk _ _ _ (Sep.m1 hS403))).trans rfl)) (qn (ye (v := .int .i64 4) (rfl)) zg)) ?_
   exact ⟨v383,c384,v387,c388,by first | trivial | rfl,hv385,hv389,(Sep.m1 (Sep.m1 (Sep.dc (Sep.m2 (Sep.dc (Sep.m2 (Sep.dc ((Sep.dc (hS403))))))))))⟩
  rw [iteF hc379] at hF351
  simp only [ze,qk,B0,reduceIte,reduceEqDiff]
  obtain ⟨c405,hv406,hS407⟩:=SlG.cls0 (c:=c352) (os:=c360++(c364)) hv355 rfl hx350 jr (Partition.RI (x:=x349) hv361 hv365) (Sep.ni2 (c1:=c360) (c2:=c364)
    (Sep.m5 (Sep.m5 (Sep.m5 hS378))))
  have hv408:=SlG.toN hv406
  have e409:=qj hF351
  exact hN134 _ _ _ e409.symm ⟨c405,f372,f373,f374,hv408,(Sep.m3 (Sep.m3 (Sep.m3 hS407)))⟩ (f376) (f375)
 rintro s413 fr416 h417 rfl ⟨c414,f419,f420,f421,hv415,hS418⟩
 dsimp only [jnO] at hk130
 unfold qfs at hk130
 simp only [qh,qf,f421,ql,B0,reduceIte,reduceEqDiff]
 refine qi (v := .agg [v20,v44,.int .i64 v39.2.Next]) ((z3 (Sep.bk _ _ _ (Sep.m1 hS418))).trans rfl) ?_
 simp only [f420,zl,B0,reduceIte,reduceEqDiff]
 refine zf (us:=[v20,v44,.int .i64 v39.2.Next]) rfl (cs':=[v20,v44,
   .int .i64 v39.2.Next]) hS418 hW rfl (qs (SlF.one hv112) (qs (SlN.one hv415) (qs rfl zt))) (nle rfl) rfl (fun h422 hS423=>?_)
 simp only [qg,qa,q8,B0,reduceIte,reduceEqDiff]
 have he:=qj hk130
 subst he
 refine kc (qn (kr (bb:=b9) (oo:=0) (v := .agg [v20,v44,
   .int .i64 v39.2.Next]) (f420) ((z3 (Sep.bk _ _ _ hS423)).trans rfl)) (qn (ye (v := .int .i64 0) (rfl)) zg)) ?_
 exact ⟨v20,c111,v44,c414,by first | trivial | rfl,hv112,hv415,(Sep.m1 (Sep.m1 (Sep.dc ((Sep.dc (hS423))))))⟩
theorem qh8 {W:Nat→Bool}{h:Heap} (hW:∀ b,
  (geL h.length) b→W b=true) (brokers_0:Int) (l_1:List Command) (r:Control × (List Int) × Bool)
  (hF:xg brokers_0 l_1=some r) : Ret E W 8 [.int .i64 brokers_0,lst jy l_1] h (fun v h'=>∃ rv0_0 rc0_0 rv0_1 rc0_1 rv1 rc1,
  v = .tup [.agg [rv0_0,rv0_1,.int .i64 r.1.Next],rv1,
  .bool r.2.2]∧SlF qe 3 86 rv0_0 r.1.Brokers rc0_0∧SlN Partition.R 5 39 rv0_1 r.1.Parts rc0_1∧SlF cI 1 3 rv1 r.2.1 rc1∧Sep h' (geL h.length) (rc0_0 ++
  (rc0_1++(rc1++([]))))):=by
 refine Ret.of (fn:=x8) rfl (Run.of ?_)
 unfold xg at hF
 have zf0:zj [.int .i64 brokers_0,lst jy l_1] 0 = .int .i64 brokers_0:=rfl
 have zf1:zj [.int .i64 brokers_0,lst jy l_1] 1=lst jy l_1:=rfl
 generalize zj [.int .i64 brokers_0,lst jy l_1]=fr0 at zf0 zf1 ⊢
 have hS:Sep h (geL h.length) []:=Sep.nil h
 simp only [x8,qh,qf,jg,B0,reduceIte,reduceEqDiff]
 refine z1 hS (fun b1 h2 hS3=>?_)
 simp only [qg,qa,q1h,qh,qf,zf0,zb,B0,reduceIte,reduceEqDiff]
 refine jc rfl (qn qu (qn qu (qn qu zg))) (wk (fun b hb=>decide_eq_true hb) brokers_0 1 6 _ rfl) ?_
 simp only [ja,qb,jq,qg,B0,reduceIte,reduceEqDiff]
 refine zu 4 (fun fr' h'=>Sep h' (geL h.length) ([Blk1 b1 [.nil,.nil,
   .int .i64 0] 29]++([]))∧fr' 20 = .bool ((!(zp brokers_0 1 6))||(decide ((80:Int) <
   (List.length l_1:Int))))∧fr' 0 = .int .i64 brokers_0∧fr' 1=lst jy l_1∧fr' 4 = .ptr b1 0) (fun Q5 hN6=>?_) ?_
 ·simp only [List.take_succ_cons,List.take_zero]
  simp only [qc (g:=16),B0,reduceIte,reduceEqDiff]
  refine qx (t:=(!(zp brokers_0 1 6))) (fun hg7=>?_) (fun hg7=>?_)
  ·simp only [hg7,qc (g:=16),zq,qr,qb,zh,qa,qk,B0,reduceIte,reduceEqDiff]
   exact hN6 _ _ ⟨hS3,by rw [orT hg7]; simp only [B0,reduceIte,reduceEqDiff],zf0,zf1,rfl⟩
  ·simp only [hg7,qc (g:=16),qp,zf1,qg,zr,qb,zx,qv,qet,qr,zi,qa,qk,B0,reduceIte,
    reduceEqDiff]
   exact hN6 _ _ ⟨hS3,by rw [orF hg7]; simp only [B0,reduceIte,reduceEqDiff],zf0,zf1,rfl⟩
 rintro fr8 h13 ⟨hS14,f9,f10,f11,f12⟩
 simp only [List.drop_succ_cons,List.drop_zero]
 simp only [qa,q64,f9,qy,B0,reduceIte,reduceEqDiff]
 refine qw (t:=((!(zp brokers_0 1 6))||(decide ((80:Int)<(List.length l_1:Int))))) (fun hc15=>?_) (fun hc15=>?_)
 ·rw [iteT hc15] at hF
  simp only [q7j,qh,qf,run_build,evp,B0,reduceIte,reduceEqDiff]
  refine qi (v := .agg [.nil,.nil,.int .i64 0]) rfl ?_
  simp only [f12,zl,B0,reduceIte,reduceEqDiff]
  refine zf (us:=[.nil,.nil,.int .i64 0]) rfl (cs':=[.nil,.nil,.int .i64 0]) hS14 hW rfl rfl (nle rfl) rfl (fun h16 hS17=>?_)
  simp only [qg,qa,q8,B0,reduceIte,reduceEqDiff]
  have he:=qj hF
  subst he
  refine kc (qn (kr (bb:=b1) (oo:=0) (v := .agg [.nil,.nil,
    .int .i64 0]) (f12) ((z3 (Sep.bk _ _ _ hS17)).trans rfl)) (qn (ye (v := .nil) (rfl)) (qn (ye (v := .bool false) (rfl)) zg))) ?_
  exact ⟨.nil,[],.nil,[],.nil,[],by first | trivial | rfl,SlF.nil,SlN.nil,SlF.nil,((Sep.dc (hS17)) : Sep _ (geL h.length) ([]))⟩
 rw [iteF hc15] at hF
 obtain ⟨v18,hx19,hF20⟩:=qm hF
 simp only [ze,qy7,qh,qf,f10,qg,zb,B0,reduceIte,reduceEqDiff]
 refine u9 rfl hS14 (qn qu zg) (qi0 (fun b hb=>decide_eq_true hb) brokers_0 v18 hx19) ?_
 rintro _ h29 ⟨v21,c22,v25,c26,rfl,hv23,hv27,hS30⟩
 refine ⟨_,qgb (qs (SlF.free1 hv23) (qs (SlN.free1 hv27) (qs rfl zt))),hS30,(j0 (SlF.pf hv23 (fun _=>rfl)) (j0 (SlN.pf hv27 Partition.RO) wt)),
   fun h31 hS32=>?_⟩
 have hS33:Sep h31 (geL h.length) (c22++(c26++([Blk1 b1 [.nil,.nil,.int .i64 0] 29]++([])))):=by simpa only [List.append_assoc,List.nil_append] using hS32
 simp only [jg,B0,reduceIte,reduceEqDiff]
 refine z1 hS33 (fun b34 h35 hS36=>?_)
 simp only [zl,B0,reduceIte,reduceEqDiff]
 refine zf (us:=[v21,v25,.int .i64 v18.Next]) rfl (cs':=[v21,v25,
   .int .i64 v18.Next]) hS36 hW rfl (qs (SlF.one hv23) (qs (SlN.one hv27) (qs rfl zt))) (nle rfl) rfl (fun h38 hS39=>?_)
 simp only [qa,qx1,qh,qf,j6,evp,B0,reduceIte,reduceEqDiff]
 refine jv (n:=1) (f:=cI) ([] : List Int) hS39 rfl rfl (fun v40 c41 h42 hv43 hS44=>?_)
 simp only [qg,qa,qy4,qh,qf,f11,zr,qb,zx,B0,reduceIte,reduceEqDiff]
 obtain ⟨oc76,hX78,hk79⟩:=jd hF20
 simp only [q20]
 refine kn (σ:=(List Int) × Control) l_1 (fun i74 x75 s158=>wy brokers_0 i74 x75 s158.1 s158.2) (fun s fr' h'=>∃ v62 c63 v67 c68 v71 c72,
   fr' 0 = .int .i64 brokers_0∧fr' 4 = .ptr b1 0∧fr' 7 = .ptr b34 0∧fr' 8=v62∧fr' 25=lst jy l_1∧SlF cI 1 3 v62 s.1 c63∧SlF qe 3 86 v67 s.2.Brokers c68∧SlN Partition.R 5 39 v71 s.2.Parts c72∧Sep h'
   (geL h.length) ([Blk1 b1 [.nil,.nil,.int .i64 0] 29]++([Blk1 b34 [v67,v71,.int .i64 s.2.Next] 29]++(c63++(c68++(c72++([]))))))) hX78 ⟨v40,c41,v21,c22,v25,
   c26,f10,f12,rfl,rfl,rfl,hv43,hv23,hv27,(Sep.m4 (Sep.m3 (Sep.m2 (Sep.m3 (Sep.m3 hS44)))))⟩ (by simp only [B0,reduceIte,reduceEqDiff]) (by simp only [B0,reduceIte,
   reduceEqDiff]) (fun _ _ _ h=>h) rfl rfl (fun _ _ _ _ h=>h) (fun _ _ _ _ h=>h) (fun _ _ _ _ h=>h) (by decide) ?_ ?_
 ·rintro i74 x75 ⟨s60,s65⟩ fr88 h89 hx96 ⟨v62,c63,v67,c68,v71,c72,f91,f92,f93,f94,f95,hv64,hv69,hv73,hS90⟩ f97 f98 oc77 hF80 hr81 Q82 hN83 hB87 hK84 hR85 hE86
  dsimp only at *
  unfold wy at hF80
  simp only [q6s,qh,qf,f95,f97,jb,B0,reduceIte,reduceEqDiff]
  refine qi (v := .ref (jy x75) 0) (ko hx96 rfl) ?_
  simp only [ql,B0,reduceIte,reduceEqDiff]
  refine qi (v := .agg [.int .i64 x75.Kind,.int .i64 x75.Broker,.int .i64 x75.Epoch,.int .i64 x75.Part,.int .i64 x75.Stamp,lst cI x75.InStep]) rfl ?_
  simp only [jg,B0,reduceIte,reduceEqDiff]
  refine z1 hS90 (fun b99 h100 hS101=>?_)
  simp only [zl,B0,reduceIte,reduceEqDiff]
  refine zf (us:=[.int .i64 x75.Kind,.int .i64 x75.Broker,.int .i64 x75.Epoch,.int .i64 x75.Part,.int .i64 x75.Stamp,
    lst cI x75.InStep]) rfl (cs':=[.int .i64 x75.Kind,.int .i64 x75.Broker,.int .i64 x75.Epoch,.int .i64 x75.Part,.int .i64 x75.Stamp,
    lst cI x75.InStep]) hS101 hW rfl rfl (nle rfl) rfl (fun h103 hS104=>?_)
  simp only [qa,B0,reduceIte,reduceEqDiff]
  refine zw hS104 hW (by simp only [B0,reduceIte,reduceEqDiff]) (fun h105 hS106=>?_)
  simp only [zv,q6g,qh,qf,ql,B0,reduceIte,reduceEqDiff]
  refine qi (v := .agg [.int .i64 x75.Kind,.int .i64 x75.Broker,.int .i64 x75.Epoch,.int .i64 x75.Part,.int .i64 x75.Stamp,lst cI x75.InStep]) rfl ?_
  obtain ⟨v107,hx108,hF109⟩:=qm hF80
  simp only [f91,qg,zb,B0,reduceIte,reduceEqDiff]
  refine jc rfl (qn (jf (qn qu (qn qu (qn qu (qn qu (qn qu (qn zo zg))))))) (qn qu zg))
    (qjn (fun b hb=>decide_eq_true hb) x75 brokers_0 v107 hx108) ?_
  simp only [ja,qb,jq,qa,q6p,qy,B0,reduceIte,reduceEqDiff]
  refine qw (t:=(!v107)) (fun hc110=>?_) (fun hc110=>?_)
  ·rw [iteT hc110] at hF109
   simp only [q7a,qh,qf,run_build,evp,B0,reduceIte,reduceEqDiff]
   refine qi (v := .agg [.nil,.nil,.int .i64 0]) rfl ?_
   simp only [f92,zl,B0,reduceIte,reduceEqDiff]
   refine zf (us:=[.nil,.nil,.int .i64 0]) rfl (cs':=[.nil,.nil,.int .i64 0]) hS106 hW rfl rfl (nle rfl) rfl (fun h111 hS112=>?_)
   simp only [qg,qa,q8,B0,reduceIte,reduceEqDiff]
   have e113:=qj hF109
   subst e113
   have ho114:=hr81 _ rfl
   have hk115:=hk79
   rw [ho114] at hk115
   dsimp only [jnO] at hk115
   apply hR85
   have he:=qj hk115
   subst he
   refine kc (qn (kr (bb:=b1) (oo:=0) (v := .agg [.nil,.nil,
     .int .i64 0]) (f92) ((z3 (Sep.bk _ _ _ hS112)).trans rfl)) (qn (ye (v := .nil) (rfl)) (qn (ye (v := .bool false) (rfl)) zg))) ?_
   exact ⟨.nil,[],.nil,[],.nil,[],by first | trivial | rfl,SlF.nil,SlN.nil,SlF.nil,
     ((Sep.dc ((Sep.dc ((Sep.dc ((Sep.dc ((Sep.dc (hS112)))))))))) : Sep _ (geL h.length) ([]))⟩
  rw [iteF hc110] at hF109
  simp only [ze,q67,qh,qf,f93,ql,B0,reduceIte,reduceEqDiff]
  refine qi (v := .agg [v67,v71,.int .i64 s65.Next]) ((z3 (Sep.bk _ _ _ (Sep.m1 hS106))).trans rfl) ?_
  simp only [ql,B0,reduceIte,reduceEqDiff]
  refine qi (v := .agg [.int .i64 x75.Kind,.int .i64 x75.Broker,.int .i64 x75.Epoch,.int .i64 x75.Part,.int .i64 x75.Stamp,lst cI x75.InStep]) rfl ?_
  obtain ⟨v116,hx117,hF118⟩:=qm hF109
  simp only [zb,B0,reduceIte,reduceEqDiff]
  refine u9 rfl hS106 (qn (jf (qn (SlF.snap hv69 (Sep.m3 hS106) rfl (fun _=>rfl) (fun _=>rfl)) (qn (SlN.snap hv73 _ (Sep.m4 hS106) rfl Partition.RO)
    (qn qu zg)))) (qn (jf (qn qu (qn qu (qn qu (qn qu (qn qu (qn zo zg))))))) zg))
    (qjl (fun b hb=>decide_eq_true hb) s65 x75 v116 hx117) ?_
  rintro _ h127 ⟨v119,c120,v123,c124,rfl,hv121,hv125,hS128⟩
  refine ⟨_,qcl (qs (qew (qs (SlF.free1 hv121) (qs (SlN.free1 hv125) (qs rfl zt)))) (qs rfl zt)),hS128,
    (j0 (SlF.pf hv121 (fun _=>rfl)) (j0 (SlN.pf hv125 Partition.RO) wt)),fun h129 hS130=>?_⟩
  have hS131:Sep h129 (geL h.length) (c120++(c124++([Blk1 b1 [.nil,.nil,.int .i64 0] 29]++([Blk1 b34 [v67,v71,
    .int .i64 s65.Next] 29]++(c63++(c68++(c72++([])))))))):=by simpa only [List.append_assoc,List.nil_append] using hS130
  simp only [qg,qad,qb,qa7,qa0,jg,B0,reduceIte,reduceEqDiff]
  refine z1 hS131 (fun b132 h133 hS134=>?_)
  simp only [zl,B0,reduceIte,reduceEqDiff]
  refine zf (us:=[v119,v123,.int .i64 v116.1.Next]) rfl (cs':=[v119,v123,
    .int .i64 v116.1.Next]) hS134 hW rfl (qs (SlF.one hv121) (qs (SlN.one hv125) (qs rfl zt))) (nle rfl) rfl (fun h136 hS137=>?_)
  simp only [qg,qa,B0,reduceIte,reduceEqDiff]
  refine zw hS137 hW (by simp only [B0,reduceIte,reduceEqDiff]) (fun h138 hS139=>?_)
  simp only [zv,q7m,qh,qf,ql,B0,reduceIte,reduceEqDiff]
  refine qi (v := .agg [v119,v123,.int .i64 v116.1.Next]) rfl ?_
  simp only [f93,zl,B0,reduceIte,reduceEqDiff]
  refine zf (us:=[v119,v123,.int .i64 v116.1.Next]) rfl (cs':=[v119,v123,
    .int .i64 v116.1.Next]) (Sep.m3 hS139) hW rfl (qs (SlF.one hv121) (qs (SlN.one hv125) (qs rfl zt))) (nle rfl) rfl (fun h140 hS141=>?_)
  simp only [qa,q58,qf,f94,qg,j6,evp,B0,reduceIte,reduceEqDiff]
  refine jv (n:=1) (f:=cI) [v116.2] hS141 rfl rfl (fun v142 c143 h144 hv145 hS146=>?_)
  simp only [xj,B0,reduceIte,reduceEqDiff]
  obtain ⟨l148,hx149,hF150⟩:=qm hF118
  refine y8 (f:=cI) hv64 (Sep.m5 hS146) hW (fun _=>rfl) (fun _=>rfl) (SlF.first hv145 hS146 (fun _=>rfl)) hx149 (fun v151 c152 h153 hv154 hS155=>?_)
  simp only [qg,qa,qk,B0,reduceIte,reduceEqDiff]
  have e157:=qj hF150
  exact hN83 _ _ _ e157.symm ⟨v151,c152,v119,c120,v123,c124,f91,f92,f93,rfl,f95,hv154,hv121,hv125,
    (Sep.m4 (Sep.m3 (Sep.m2 (Sep.m3 (Sep.m3 (Sep.dc (Sep.m5 (Sep.dc (Sep.m5 (Sep.dc (Sep.m1 hS155)))))))))))⟩ (f97) (f98)
 rintro ⟨s159,s164⟩ fr173 h174 rfl ⟨v161,c162,v166,c167,v170,c171,f176,f177,f178,f179,f180,hv163,hv168,hv172,hS175⟩
 dsimp only [jnO] at hk79
 dsimp only at *
 unfold qd8 at hk79
 simp only [q22,qh,qf,f178,ql,B0,reduceIte,reduceEqDiff]
 refine qi (v := .agg [v166,v170,.int .i64 s164.Next]) ((z3 (Sep.bk _ _ _ (Sep.m1 hS175))).trans rfl) ?_
 simp only [f179,qg,f177,zl,B0,reduceIte,reduceEqDiff]
 refine zf (us:=[v166,v170,.int .i64 s164.Next]) rfl (cs':=[v166,v170,
   .int .i64 s164.Next]) hS175 hW rfl (qs (SlF.one hv168) (qs (SlN.one hv172) (qs rfl zt))) (nle rfl) rfl (fun h181 hS182=>?_)
 simp only [qg,qa,q8,B0,reduceIte,reduceEqDiff]
 have he:=qj hk79
 subst he
 refine kc (qn (kr (bb:=b1) (oo:=0) (v := .agg [v166,v170,
   .int .i64 s164.Next]) (f177) ((z3 (Sep.bk _ _ _ hS182)).trans rfl)) (qn (ye (v:=v161) (rfl)) (qn (ye (v := .bool true) (rfl)) zg))) ?_
 exact ⟨v166,c167,v170,c171,v161,c162,by first | trivial | rfl,hv168,hv172,hv163,(Sep.m2 (Sep.m2 (Sep.dc ((Sep.dc (hS182))))))⟩
end Go.Proofs.Ytjloihcijdcpeaa.X
