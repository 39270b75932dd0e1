/- The functions' code comes to what the plain functions say (7). -/
import Derived.Test.YtjloihcijdcpeaaXEH6
open Go.IntKind renaming wrap→d8
open List renaming append_assoc→f6,drop_succ_cons→b7,drop_zero→e8,length→b6,nil_append→o8,take_succ_cons→d7,take_zero→e9
open Nat renaming add_zero→b4,reduceAdd→a8,reduceEqDiff→a7,zero_add→a9
open Go.Proofs.Ytjloihcijdcpeaa.X.Sep renaming bk→l9,dc→l6,m1→f8,m2→f0,m3→i5,m4→o6,m5→s7,ni2→a1d,nil→a0t,no2→a13
open Go.Proofs.Ytjloihcijdcpeaa.X.SlF renaming free1→a0k,ia→a18,isrow→a1t,one→n7,pf→a1n,rowfp→a1r,snap→a0g
open Go.Proofs.Ytjloihcijdcpeaa.X.SlG renaming cls0→a1u,ld→a2s,opn→a12,toN→a1c
open Go.Proofs.Ytjloihcijdcpeaa.X.SlN renaming free1→a01,len→a2h,one→t7,pf→a2d,toG→a11
set_option linter.unusedVariables false
set_option linter.unusedSimpArgs false
set_option maxRecDepth 100000
namespace Go.Proofs.Ytjloihcijdcpeaa.X
open Go
theorem qjo {W:Nat→Bool}{h:Heap}{lo:Nat→Prop}{S0:List Obj} (hW:∀ b,
  lo b→W b=true) (pb0:Nat) (v_0:Control) (pv0_0:XV) (pc0_0:List Obj) (ph0_0:SlF qe 3 86 pv0_0 v_0.Brokers pc0_0) (pv0_1:XV) (pc0_1:List Obj)
  (ph0_1:SlN Partition.R 5 39 pv0_1 v_0.Parts pc0_1) (v_1:Command) (r:Int × Control) (hF:qbx v_0 v_1=some r) (hS:Sep h lo ([Blk1 pb0 [pv0_0,pv0_1,
  .int .i64 v_0.Next] 29]++(pc0_0++(pc0_1++(S0))))) : Ret E W 77 [.ptr pb0 0,.agg [.int .i64 v_1.Kind,.int .i64 v_1.Broker,.int .i64 v_1.Epoch,.int .i64 v_1.Part,
  .int .i64 v_1.Stamp,lst cI v_1.InStep]] h (fun v h'=>∃ ic0_0 iv0_1 ic0_1,
  v = .int .i64 r.1∧SlF qe 3 86 pv0_0 r.2.Brokers ic0_0∧SlN Partition.R 5 39 iv0_1 r.2.Parts ic0_1∧Sep h' lo ([Blk1 pb0 [pv0_0,iv0_1,
  .int .i64 r.2.Next] 29]++(ic0_0++(ic0_1++(S0))))):=by
 refine Ret.of (fn:=x77) rfl (Run.of ?_)
 unfold qbx at hF
 have zf0:zj [.ptr pb0 0,.agg [.int .i64 v_1.Kind,.int .i64 v_1.Broker,.int .i64 v_1.Epoch,.int .i64 v_1.Part,.int .i64 v_1.Stamp,
   lst cI v_1.InStep]] 0 = .ptr pb0 0:=rfl
 have zf1:zj [.ptr pb0 0,.agg [.int .i64 v_1.Kind,.int .i64 v_1.Broker,.int .i64 v_1.Epoch,.int .i64 v_1.Part,.int .i64 v_1.Stamp,
   lst cI v_1.InStep]] 1 = .agg [.int .i64 v_1.Kind,.int .i64 v_1.Broker,.int .i64 v_1.Epoch,.int .i64 v_1.Part,.int .i64 v_1.Stamp,lst cI v_1.InStep]:=rfl
 generalize zj [.ptr pb0 0,.agg [.int .i64 v_1.Kind,.int .i64 v_1.Broker,.int .i64 v_1.Epoch,.int .i64 v_1.Part,.int .i64 v_1.Stamp,lst cI v_1.InStep]]=fr0 at zf0 zf1 ⊢
 simp only [x77,qh,qf,jp,zf1,B0,reduceIte,a7]
 refine jc (cs:=[.int .i64 v_1.Kind,.int .i64 v_1.Broker,.int .i64 v_1.Epoch,.int .i64 v_1.Part,.int .i64 v_1.Stamp,
   lst cI v_1.InStep]) hS rfl rfl rfl (fun b1 h2 hS3=>?_)
 simp only [qg,qa,B0,reduceIte,a7]
 refine zq hS3 hW (by simp only [B0,reduceIte,a7]) (fun h5 hS6=>?_)
 simp only [zp,qt8,qh,ji,zf0,jm,qt,yn,z7,z3,a8,a9,b4,q9,z2,B0,reduceIte,
   a7]
 refine zc (v:=pv0_0) ((z6 (l9 _ _ _ hS6)).trans rfl) ?_
 simp only [z3,qt,a8,a9,b4,qs,z2,B0,reduceIte,a7]
 refine zc (v := .int .i64 v_1.Broker) rfl ?_
 obtain ⟨x7,hx8,hF9⟩:=qk hF
 simp only [wn,B0,reduceIte,a7]
 obtain ⟨b10,hb11⟩:=a1t ph0_0 (kq hx8)
 refine zc (a18 ph0_0 hb11 hx8) ?_
 simp only [jm,qt,zm,qra,qh,qf,qp,qb,a8,a9,b4,qs,qm,B0,reduceIte,a7]
 refine qi (v := .int .i64 v_1.Kind) rfl ?_
 simp only [qa,qsb,wi,qvw,qh,qf,qv,qb,z8,qg,qwg,qz,B0,reduceIte,a7]
 refine qx (t:=(decide (v_1.Kind=1))) (fun hc12=>?_) (fun hc12=>?_)
 ·rw [iteT hc12] at hF9
  simp only [q1o,qh,qf,zf0,qg,kx,qb,z7,qp,a8,a9,b4,q9,qm,B0,reduceIte,a7]
  refine qi (v := .int .i64 v_0.Next) ((z6 (l9 _ _ _ hS6)).trans rfl) ?_
  simp only [qv,qb,z8,qa,qz,B0,reduceIte,a7]
  refine qx (t:=(decide (v_0.Next=1000))) (fun hc13=>?_) (fun hc13=>?_)
  ·rw [iteT hc13] at hF9
   simp only [qh,qf,qg,qa,q8,B0,reduceIte,a7]
   have he:=qj hF9
   subst he
   simp only [zg,B0,reduceIte,a7]
   exact ⟨pc0_0,pv0_1,pc0_1,by first | trivial | rfl,ph0_0,ph0_1,(f0 (f0 (f0 hS6)))⟩
  rw [iteF hc13] at hF9
  simp only [zf,q4h,qh,qf,qg,zf0,kx,qb,z7,qp,a8,a9,b4,q9,qm,B0,reduceIte,
    a7]
  refine qi (v := .int .i64 v_0.Next) ((z6 (l9 _ _ _ hS6)).trans rfl) ?_
  simp only [kx,qb,z7,qp,a8,a9,b4,q9,zk,B0,reduceIte,a7]
  refine qea (f:=qe) (x':=(Broker.mk v_0.Next x7.Left x7.Fenced)) (o:=0) ph0_0 (f8 hS6) hW hb11 hx8 (fun _=>rfl) rfl rfl (nle rfl) rfl
    (fun c16 h14 hv17 hS15=>?_)
  have hx18:=k7 (x':=(Broker.mk v_0.Next x7.Left x7.Fenced)) hx8
  simp only [qa,qz0,qh,qf,qg,kx,qb,z7,qp,a8,a9,b4,q9,zk,B0,reduceIte,
    a7]
  refine qea (f:=qe) (x':=(Broker.mk v_0.Next 9 x7.Fenced)) (o:=1) hv17 hS15 hW hb11 hx18 (fun _=>rfl) rfl rfl (nle rfl) rfl (fun c21 h19 hv22 hS20=>?_)
  rw [List.set_set] at hv22
  have hx23:=k7 (x':=(Broker.mk v_0.Next 9 x7.Fenced)) hx8
  simp only [qa,qzd,qf,zf0,qg,kx,qb,z7,qp,a8,a9,b4,q9,qm,B0,reduceIte,
    a7]
  refine qi (v := .int .i64 v_0.Next) ((z6 (l9 _ _ _ (f8 hS20))).trans rfl) ?_
  simp only [qv,qb,qal,kx,z7,qp,a8,a9,b4,q9,zk,B0,reduceIte,a7]
  refine zb (us:=[.int .i64 (d8 .i64 (v_0.Next+1))]) rfl (cs':=[pv0_0,pv0_1,
    .int .i64 (d8 .i64 (v_0.Next+1))]) (f8 hS20) hW rfl rfl (nle rfl) rfl (fun h24 hS25=>?_)
  simp only [qa,ki,qh,qf,qg,q8,B0,reduceIte,a7]
  have he:=qj hF9
  subst he
  simp only [zg,B0,reduceIte,a7]
  exact ⟨c21,pv0_1,pc0_1,by first | trivial | rfl,hv22,ph0_1,(f0 (f0 (f0 hS25)))⟩
 rw [iteF hc12] at hF9
 simp only [qu7,qh,qf,qv,qb,z8,qg,qa,qus,qz,B0,reduceIte,a7]
 refine qx (t:=(decide (v_1.Kind=2))) (fun hc26=>?_) (fun hc26=>?_)
 ·rw [iteT hc26] at hF9
  simp only [qzv,qh,qf,qg,kx,qb,z7,qp,a8,a9,b4,q9,qm,B0,reduceIte,a7]
  refine qi (v := .int .i64 x7.Epoch) ((SlF.ld (o:=0) ph0_0 (f8 hS6) hb11 hx8 (fun _=>rfl) (nle rfl)).trans rfl) ?_
  simp only [qv,qb,z8,qa,qz,B0,reduceIte,a7]
  refine qx (t:=(decide (x7.Epoch=0))) (fun hc27=>?_) (fun hc27=>?_)
  ·rw [iteT hc27] at hF9
   simp only [qh,qf,qg,qa,q8,B0,reduceIte,a7]
   have he:=qj hF9
   subst he
   simp only [zg,B0,reduceIte,a7]
   exact ⟨pc0_0,pv0_1,pc0_1,by first | trivial | rfl,ph0_0,ph0_1,(f0 (f0 (f0 hS6)))⟩
  rw [iteF hc27] at hF9
  simp only [zf,q2r,qh,ji,jm,qt,yn,z7,z3,a8,a9,b4,q9,z2,B0,reduceIte,
    a7]
  refine zc (v := .int .i64 x7.Epoch) ((SlF.ld (o:=0) ph0_0 (f8 hS6) hb11 hx8 (fun _=>rfl) (nle rfl)).trans rfl) ?_
  simp only [z3,qt,a8,a9,b4,qs,z2,B0,reduceIte,a7]
  refine zc (v := .int .i64 v_1.Epoch) rfl ?_
  simp only [wt,qt,wm,zm,qz,B0,reduceIte,a7]
  refine qx (t:=(decide (x7.Epoch≠v_1.Epoch))) (fun hc28=>?_) (fun hc28=>?_)
  ·rw [iteT hc28] at hF9
   simp only [qh,qf,qg,qa,q8,B0,reduceIte,a7]
   have he:=qj hF9
   subst he
   simp only [zg,B0,reduceIte,a7]
   exact ⟨pc0_0,pv0_1,pc0_1,by first | trivial | rfl,ph0_0,ph0_1,(f0 (f0 (f0 hS6)))⟩
  rw [iteF hc28] at hF9
  simp only [zf,q29,qf,qg,kx,qb,z7,qp,a8,a9,b4,q9,zk,B0,reduceIte,a7]
  refine qea (f:=qe) (x':=(Broker.mk x7.Epoch 9 x7.Fenced)) (o:=1) ph0_0 (f8 hS6) hW hb11 hx8 (fun _=>rfl) rfl rfl (nle rfl) rfl
    (fun c31 h29 hv32 hS30=>?_)
  have hx33:=k7 (x':=(Broker.mk x7.Epoch 9 x7.Fenced)) hx8
  simp only [qa,ki,qh,qf,qg,q8,B0,reduceIte,a7]
  have he:=qj hF9
  subst he
  simp only [zg,B0,reduceIte,a7]
  exact ⟨c31,pv0_1,pc0_1,by first | trivial | rfl,hv32,ph0_1,(f0 (f8 (f0 hS30)))⟩
 rw [iteF hc26] at hF9
 simp only [qtx,qh,qf,qv,qb,z8,qg,qa,qvs,qz,B0,reduceIte,a7]
 refine qx (t:=(decide (v_1.Kind=3))) (fun hc34=>?_) (fun hc34=>?_)
 ·rw [iteT hc34] at hF9
  simp only [qwf,qh,qf,zf0,qg,kx,qb,z7,qp,a8,a9,b4,q9,qm,B0,reduceIte,a7]
  refine qi (v:=pv0_0) ((z6 (l9 _ _ _ hS6)).trans rfl) ?_
  simp only [zx,qb,SlF.plen ph0_0,qg,qa,B0,reduceIte,a7]
  obtain ⟨oc43,hX45,hk46⟩:=jo hF9
  simp only [qtn]
  refine qa8 (σ:=(List Broker)) (fun i41 s71=>xu i41 s71) (fun s fr' h'=>∃ c39,
    fr' 0 = .ptr pb0 0∧SlF qe 3 86 pv0_0 s c39∧Sep h' lo ([Blk1 pb0 [pv0_0,pv0_1,.int .i64 v_0.Next] 29]++(c39++(pc0_1++(S0))))) hX45 ⟨pc0_0,zf0,ph0_0,
    (f0 (f0 (f0 hS6)))⟩ (by simp only [B0,reduceIte,a7]) (by simp only [B0,reduceIte,
    a7]) (fun _ _ _ h=>h) rfl rfl (fun _ _ _ _ h=>h) (fun _ _ _ _ h=>h) (fun _ _ _ _ h=>h) (by decide) ?_ ?_
  ·rintro i41 s38 fr55 h56 hx59 ⟨c39,f58,hv40,hS57⟩ f60 f61 oc44 hF47 hr48 Q49 hN50 hB54 hK51 hR52 hE53
   unfold xu at hF47
   simp only [qz9,qh,qf,f60,qg,qa,q39,ji,f58,jm,qt,yn,z7,z3,a8,a9,b4,
     q9,z2,B0,reduceIte,a7]
   refine zc (v:=pv0_0) ((z6 (l9 _ _ _ hS57)).trans rfl) ?_
   simp only [jm,qt,f58,yn,z7,z3,a8,a9,b4,q9,z2,B0,reduceIte,a7]
   refine zc (v:=pv0_0) ((z6 (l9 _ _ _ hS57)).trans rfl) ?_
   obtain ⟨x62,hx63,hF64⟩:=qk hF47
   simp only [jm,qt,wn,B0,reduceIte,a7]
   refine zc (a18 hv40 hb11 hx63) ?_
   simp only [z3,qt,a8,a9,b4,q9,z2,B0,reduceIte,a7]
   refine zc (v := .int .i64 x62.Left) ((SlF.ld (o:=1) hv40 (f8 hS57) hb11 hx63 (fun _=>rfl) (nle rfl)).trans rfl) ?_
   simp only [wt,qt,qe1,zag,zb1,wn,B0,reduceIte,a7]
   refine zc (a18 hv40 hb11 hx63) ?_
   simp only [z3,qt,a8,a9,b4,q9,uy,B0,reduceIte,a7]
   refine qfv (f:=qe) (x':=(Broker.mk x62.Epoch (mxI (d8 .i64 (x62.Left - 1)) 0) x62.Fenced)) (o:=1) hv40 (f8 hS57) hW hb11 hx63
     (fun _=>rfl) rfl rfl (nle rfl) rfl (fun c67 h65 hv68 hS66=>?_)
   have hx69:=k7 (x':=(Broker.mk x62.Epoch (mxI (d8 .i64 (x62.Left - 1)) 0) x62.Fenced)) hx63
   simp only [zm,qn,B0,reduceIte,a7]
   have e70:=qj hF64
   exact hN50 _ _ _ e70.symm ⟨c67,f58,hv68,(f0 (f8 (f0 hS66)))⟩ (f60) (f61)
  rintro s72 fr75 h76 rfl ⟨c73,f78,hv74,hS77⟩
  dsimp only [jnO] at hk46
  unfold qc4 at hk46
  simp only [ki,qh,qf,qg,qa,q8,B0,reduceIte,a7]
  have he:=qj hk46
  subst he
  simp only [zg,B0,reduceIte,a7]
  exact ⟨c73,pv0_1,pc0_1,by first | trivial | rfl,hv74,ph0_1,(f0 (f0 (f0 hS77)))⟩
 rw [iteF hc34] at hF9
 simp only [qr1,qh,qf,qv,qb,z8,qg,qa,qvf,qz,B0,reduceIte,a7]
 refine qx (t:=(decide (v_1.Kind=4))) (fun hc80=>?_) (fun hc80=>?_)
 ·rw [iteT hc80] at hF9
  simp only [qut,qh,qf,qp,qb,a8,a9,b4,qs,qm,B0,reduceIte,a7]
  refine qi (v:=lst cI v_1.InStep) rfl ?_
  simp only [zx,qb,z1,qv,z8,qg,B0,reduceIte,a7]
  refine zr 7 (fun fr' h'=>Sep h' lo ([Blk1 pb0 [pv0_0,pv0_1,
    .int .i64 v_0.Next] 29]++(pc0_0++(pc0_1++(S0))))∧fr' 99 = .bool ((decide ((b6 v_1.InStep:Int)=0))||(decide
    ((b6 v_0.Parts:Int)=5)))∧fr' 0 = .ptr pb0 0∧fr' 3 = .ref [.int .i64 v_1.Kind,.int .i64 v_1.Broker,.int .i64 v_1.Epoch,.int .i64 v_1.Part,
    .int .i64 v_1.Stamp,lst cI v_1.InStep] 0) (fun Q81 hN82=>?_) ?_
  ·simp only [d7,e9]
   simp only [qc (g:=92),B0,reduceIte,a7]
   refine qy (t:=(decide ((b6 v_1.InStep:Int)=0))) (fun hg83=>?_) (fun hg83=>?_)
   ·simp only [hg83,qc (g:=92),zv,qr,qb,zh,qa,qn,B0,reduceIte,a7]
    exact hN82 _ _ ⟨(f0 (f0 (f0 hS6))),by rw [orT hg83]; simp only [B0,reduceIte,a7],zf0,rfl⟩
   ·simp only [hg83,qc (g:=92),qq,zf0,qg,kx,qb,z7,qp,a8,a9,b4,q9,qm,B0,
     reduceIte,a7]
    refine qi (v:=pv0_1) ((z6 (l9 _ _ _ hS6)).trans rfl) ?_
    simp only [hg83,qc (g:=92),qq,zx,qb,a2h ph0_1,qv,z8,qr,zi,qa,qn,B0,reduceIte,a7]
    exact hN82 _ _ ⟨(f0 (f0 (f0 hS6))),by rw [orF hg83]; simp only [B0,reduceIte,a7],zf0,rfl⟩
  rintro fr84 h88 ⟨hS89,f85,f86,f87⟩
  simp only [b7,e8]
  simp only [qa,f85,qz,B0,reduceIte,a7]
  refine qx (t:=((decide ((b6 v_1.InStep:Int)=0))||(decide ((b6 v_0.Parts:Int)=5)))) (fun hc90=>?_) (fun hc90=>?_)
  ·rw [iteT hc90] at hF9
   simp only [qh,qf,qg,qa,q8,B0,reduceIte,a7]
   have he:=qj hF9
   subst he
   simp only [zg,B0,reduceIte,a7]
   exact ⟨pc0_0,pv0_1,pc0_1,by first | trivial | rfl,ph0_0,ph0_1,(f0 (f0 (f0 hS89)))⟩
  rw [iteF hc90] at hF9
  simp only [zf,qw2,ji,qa0,evp,B0,reduceIte,a7]
  refine xm (n:=1) (f:=cI) ([] : List Int) hS89 rfl rfl (fun v92 c93 h94 hv95 hS96 hq91=>?_)
  simp only [f87,z3,qt,a8,a9,b4,qs,z2,B0,reduceIte,a7]
  refine zc (v:=lst cI v_1.InStep) rfl ?_
  simp only [qlx,evp,B0,reduceIte,a7]
  refine qir (n:=1) (f:=cI) ([] : List Int) hS96 rfl rfl (fun v98 c99 h100 hv101 hS102=>?_)
  simp only [f87,qdl,qt,a8,a9,b4,qs,qbc,qci,B0,reduceIte,a7]
  refine zc (v:=lst cI v_1.InStep) rfl ?_
  simp only [f86,qpf,qt,q92,z7,qdl,a8,a9,b4,q9,qbc,B0,reduceIte,a7]
  refine qfp (Sep.ltk hS89) ?_
  refine zc (v:=pv0_1) ((z6 (l9 _ _ _ (f0 hS102))).trans rfl) ?_
  simp only [qeg,B0,reduceIte,a7]
  obtain ⟨l104,hx105,hF106⟩:=qk hF9
  have hq107:=nwq (fun z hz=>Sep.dj (f0 (f0 hS102)) qcb (a1r hv95 z hz))
  refine qhq (qjd (fun z hz=>Sep.dj (f0 (f0 hS102)) qcb (a1r hv95 z hz)) qf0) ?_
  refine qbv (f:=cI) hv95 (f8 hS102) hW (fun _=>rfl) (fun _=>rfl) (wk (fun _=>rfl)) hx105 (fun v108 c109 h110 hv111 hS112=>?_)
  simp only [qeg,B0,reduceIte,a7]
  obtain ⟨l114,hx115,hF116⟩:=qk hF106
  have hq117:=nwq (fun z hz=>Sep.dj (f0 (f0 hS112)) qcb (a1r hv101 z hz))
  refine qhq (qjd (fun z hz=>Sep.dj (f0 (f0 hS112)) qcb (a1r hv101 z hz)) qf0) ?_
  refine qbv (f:=cI) hv101 (f8 hS112) hW (fun _=>rfl) (fun _=>rfl) (wk (fun _=>rfl)) hx115 (fun v118 c119 h120 hv121 hS122=>?_)
  simp only [qil,evp,B0,reduceIte,a7]
  refine zc (v := .agg [v108,v118,.int .i64 (-1),.int .i64 0,.int .i64 0]) (qdz (qat (us:=[v108]) (vs:=[v108,.nil,.int .i64 0,.int .i64 0,
    .int .i64 0]) (kw (n7 hv111)) rfl (nle rfl) (qo (n7 hv111) zl) rfl (qat (us:=[v118]) (vs:=[v108,v118,.int .i64 0,.int .i64 0,
    .int .i64 0]) (kw (n7 hv121)) rfl (nle rfl) (qo (n7 hv121) zl) rfl (qat (us:=[.int .i64 (-1)]) (vs:=[v108,v118,.int .i64 (-1),.int .i64 0,
    .int .i64 0]) rfl rfl (nle rfl) rfl rfl qfu)))) ?_
  simp only [qa0,evp,B0,reduceIte,a7]
  refine qiu (R:=Partition.R) (n:=5) (cs:=[v108,v118,.int .i64 (-1),.int .i64 0,
    .int .i64 0]) (os:=c109++(c119)) (Sep.bi2 (c1:=c109) (c2:=c119) (f8 hS122)) (qat (us:=[v108,v118,.int .i64 (-1),.int .i64 0,.int .i64 0]) (vs:=[v108,
    v118,.int .i64 (-1),.int .i64 0,.int .i64 0]) rfl rfl (nle rfl) (qo (n7 hv111) (qo (n7 hv121) (qo rfl (qo rfl (qo rfl zl))))) rfl qfu)
    (Partition.RI (x:=(Partition.mk l104 l114 (-1) 0 0)) hv111 hv121) rfl (fun v124 c125 h126 hv127 hS128=>?_)
  simp only [qsk,B0,reduceIte,a7]
  obtain ⟨l130,hx131,hF132⟩:=qk hF116
  refine qki (R:=Partition.R) (c:=pc0_1) ph0_1 hv127 (i5 hS128) hW Partition.RO.len Partition.RO.one hx131 (fun v133 c134 h135 hv136 hS137=>?_)
  simp only [yn,qt,z7,z3,a8,a9,b4,q9,uy,B0,reduceIte,a7]
  refine qay (us:=[v133]) (kw (t7 hv136)) (cs':=[pv0_0,v133,
    .int .i64 v_0.Next]) (f8 hS137) hW rfl (qo (t7 hv136) zl) (nle rfl) rfl (fun h139 hS140=>?_)
  simp only [zm,ki,qh,qf,qg,qa,q8,B0,reduceIte,a7]
  have he:=qj hF132
  subst he
  simp only [zg,B0,reduceIte,a7]
  exact ⟨pc0_0,v133,c134,by first | trivial | rfl,ph0_0,hv136,(f0 (f0 (f8 hS140)))⟩
 rw [iteF hc80] at hF9
 simp only [qrd,qh,qf,qv,qb,z8,qg,qa,qur,qz,B0,reduceIte,a7]
 obtain ⟨s141,hX143,hk144⟩:=qk hF9
 refine ue (t:=(decide (v_1.Kind=5))) (fun fr' h'=>fr' 0 = .ptr pb0 0∧fr' 3 = .ref [.int .i64 v_1.Kind,.int .i64 v_1.Broker,.int .i64 v_1.Epoch,.int .i64 v_1.Part,
   .int .i64 v_1.Stamp,lst cI v_1.InStep] 0∧fr' 5 = .ptr b10 (v_1.Broker.toNat*3)∧fr' 118 = .bool s141∧Sep h' lo ([Blk1 pb0 [pv0_0,pv0_1,
   .int .i64 v_0.Next] 29]++(pc0_0++(pc0_1++(S0))))) (fun Q145 hN146 hR147 hE148=>⟨fun hc149=>?_,fun hc149=>?_⟩) ?_
 ·rw [iteT hc149] at hX143
  simp only [zf,qn,B0,reduceIte,a7]
  have e150:=qj hX143
  subst e150
  exact hN146 _ _ ⟨zf0,rfl,rfl,rfl,(f0 (f0 (f0 hS6)))⟩
 ·rw [iteF hc149] at hX143
  simp only [qf,qv,qb,z8,qg,qa,qn,B0,reduceIte,a7]
  have e151:=qj hX143
  subst e151
  exact hN146 _ _ ⟨zf0,rfl,rfl,rfl,(f0 (f0 (f0 hS6)))⟩
 rintro fr152 h153 ⟨f155,f156,f157,f158,hS154⟩
 unfold ym at hk144
 simp only [qvp,f158,qz,B0,reduceIte,a7]
 refine qx (t:=s141) (fun hc159=>?_) (fun hc159=>?_)
 ·rw [iteT hc159] at hk144
  simp only [qs3,qh,ji,f156,z3,qt,a8,a9,b4,qs,z2,B0,reduceIte,a7]
  refine zc (v := .int .i64 v_1.Part) rfl ?_
  simp only [f155,jm,qt,yn,z7,z3,a8,a9,b4,q9,z2,B0,reduceIte,a7]
  refine zc (v:=pv0_1) ((z6 (l9 _ _ _ hS154)).trans rfl) ?_
  simp only [qi8,qt,a2h ph0_1,wt,qcg,zm,qz,B0,reduceIte,a7]
  refine qx (t:=(decide ((b6 v_0.Parts:Int)≤v_1.Part))) (fun hc160=>?_) (fun hc160=>?_)
  ·rw [iteT hc160] at hk144
   simp only [qh,qf,qg,qa,q8,B0,reduceIte,a7]
   have he:=qj hk144
   subst he
   simp only [zg,B0,reduceIte,a7]
   exact ⟨pc0_0,pv0_1,pc0_1,by first | trivial | rfl,ph0_0,ph0_1,(f0 (f0 (f0 hS154)))⟩
  rw [iteF hc160] at hk144
  simp only [zf,qxa,qh,ji,f155,jm,qt,yn,z7,z3,a8,a9,b4,q9,z2,B0,reduceIte,
    a7]
  refine zc (v:=pv0_1) ((z6 (l9 _ _ _ hS154)).trans rfl) ?_
  simp only [f156,z3,qt,a8,a9,b4,qs,z2,B0,reduceIte,a7]
  refine zc (v := .int .i64 v_1.Part) rfl ?_
  obtain ⟨x161,hx162,hF163⟩:=qk hk144
  simp only [wn,B0,reduceIte,a7]
  obtain ⟨b164,hb165⟩:=SlN.isrow ph0_1 (kq hx162)
  refine zc (SlN.ia ph0_1 hb165 hx162) ?_
  simp only [jm,qt,zm,qua,qh,qf,f156,qp,qb,a8,a9,b4,qs,qm,B0,reduceIte,
    a7]
  refine qi (v := .int .i64 v_1.Kind) rfl ?_
  simp only [qv,qb,z8,qa,qsv,qz,B0,reduceIte,a7]
  refine qx (t:=(decide (v_1.Kind=6))) (fun hc166=>?_) (fun hc166=>?_)
  ·rw [iteT hc166] at hF163
   obtain ⟨c167,cs168,os169,hv170,hR171,hS172⟩:=a12 (a11 ph0_1 hb165 Partition.RO.len) hx162 jl Partition.RO.len (f0 hS154)
   obtain ⟨v174,c175,v178,c179,hv176,hv180,rfl,rfl⟩:=hR171
   have hS173:=a13 hS172
   simp only [qtm,qh,ji,jm,qt,yn,z7,z3,a8,a9,b4,q9,z2,B0,reduceIte,a7]
   refine zc (v:=v178) ((a2s (o:=1) hv170 rfl hx162 hS173 (nle rfl)).trans rfl) ?_
   simp only [f156,z3,qt,a8,a9,b4,qs,z2,B0,reduceIte,a7]
   refine zc (v := .int .i64 v_1.Broker) rfl ?_
   obtain ⟨v182,hx183,hF184⟩:=qk hF163
   simp only [xx,B0,reduceIte,a7]
   refine qga rfl (ql (a0g hv180 (f0 hS173) rfl (fun _=>rfl) (fun _=>rfl)) (ql qu zd)) (xh
     (fun b hb=>decide_eq_true hb) x161.InStep v_1.Broker v182 hx183) ?_
   simp only [qhi,qt,jt,jm,B0,reduceIte,a7]
   refine qf8 5 (fun fr' h'=>Sep h' lo (c167++([Blk1 pb0 [pv0_0,pv0_1,
     .int .i64 v_0.Next] 29]++(c175++(c179++(pc0_0++(S0))))))∧fr' 152 = .bool ((!v182)||x7.Fenced)∧fr' 3 = .ref [.int .i64 v_1.Kind,.int .i64 v_1.Broker,
     .int .i64 v_1.Epoch,.int .i64 v_1.Part,.int .i64 v_1.Stamp,lst cI v_1.InStep] 0∧fr' 7 = .ptr b164 (v_1.Part.toNat*5)) rfl (fun Q185 hN186=>?_) ?_
   ·simp only [d7,e9]
    simp only [zo (g:=147),B0,reduceIte,a7]
    refine yu (t:=(!v182)) (fun hg187=>?_) (fun hg187=>?_)
    ·simp only [hg187,zo (g:=147),wj,yd,qt,zh,zm,qn,B0,reduceIte,a7]
     exact hN186 _ _ ⟨(o6 (o6 (i5 (i5 (o6 hS173))))),by rw [orT hg187]; simp only [B0,reduceIte,a7],f156,rfl⟩
    ·simp only [hg187,zo (g:=147),zz,f157,jm,qt,yn,z7,z3,a8,a9,b4,q9,z2,B0,
      reduceIte,a7]
     refine zc (v := .bool x7.Fenced) ((SlF.ld (o:=2) ph0_0 (o6 hS173) hb11 hx8 (fun _=>rfl) (nle rfl)).trans rfl) ?_
     simp only [hg187,yd,qt,zi,zm,qn,B0,reduceIte,a7]
     exact hN186 _ _ ⟨(o6 (o6 (i5 (i5 (o6 hS173))))),by rw [orF hg187]; simp only [B0,reduceIte,a7],f156,rfl⟩
   rintro fr188 h192 ⟨hS193,f189,f190,f191⟩
   simp only [b7,e8]
   simp only [zm,f189,qz,B0,reduceIte,a7]
   refine qx (t:=((!v182)||x7.Fenced)) (fun hc194=>?_) (fun hc194=>?_)
   ·rw [iteT hc194] at hF184
    simp only [qh,qf,qg,qa,q8,B0,reduceIte,a7]
    obtain ⟨c195,hv196,hS197⟩:=a1u (c:=c167) (os:=c175++(c179)) hv170 rfl hx162 jl (Partition.RI (x:=x161) hv176 hv180) (a1d (c1:=c175)
      (c2:=c179) (f0 (i5 (i5 hS193))))
    have hv198:=a1c hv196
    have he:=qj hF184
    subst he
    simp only [zg,B0,reduceIte,a7]
    exact ⟨pc0_0,pv0_1,c195,by first | trivial | rfl,ph0_0,hv198,(f0 (f0 hS197))⟩
   rw [iteF hc194] at hF184
   simp only [zf,qxb,qh,qf,f191,qg,f190,qp,qb,a8,a9,b4,qs,qm,B0,reduceIte,a7]
   refine qi (v := .int .i64 v_1.Broker) rfl ?_
   simp only [kx,qb,z7,qp,a8,a9,b4,q9,zk,B0,reduceIte,a7]
   refine qdk (n:=5) (us:=[.int .i64 v_1.Broker]) (cs:=[v174,v178,.int .i64 x161.Leader,.int .i64 x161.Epoch,.int .i64 x161.Stamp]) (o:=2) (cs':=[v174,
     v178,.int .i64 v_1.Broker,.int .i64 x161.Epoch,.int .i64 x161.Stamp]) rfl hv170 rfl hx162 hS193 hW rfl rfl (nle rfl) rfl (fun c201 h199 hv202 hS200=>?_)
   simp only [qa,qh,qf,qg,q8,B0,reduceIte,a7]
   obtain ⟨c203,hv204,hS205⟩:=SlG.cls (e':=(Partition.mk x161.Homes x161.InStep v_1.Broker x161.Epoch x161.Stamp)) (c:=c201) (os:=c175 ++
     (c179)) hv202 rfl hx162 jl (Partition.RI (x:=(Partition.mk x161.Homes x161.InStep v_1.Broker x161.Epoch x161.Stamp)) hv176 hv180) (a1d (c1:=c175)
     (c2:=c179) (f0 (i5 (i5 hS200))))
   have hx206:=k7 (x':=(Partition.mk x161.Homes x161.InStep v_1.Broker x161.Epoch x161.Stamp)) hx162
   have hv207:=a1c hv204
   have he:=qj hF184
   subst he
   simp only [zg,B0,reduceIte,a7]
   exact ⟨pc0_0,pv0_1,c203,by first | trivial | rfl,ph0_0,hv207,(f0 (f0 hS205))⟩
  rw [iteF hc166] at hF163
  simp only [zf,qw7,qh,qf,f155,qg,f156,qm,B0,reduceIte,a7]
  refine qi (v := .agg [.int .i64 v_1.Kind,.int .i64 v_1.Broker,.int .i64 v_1.Epoch,.int .i64 v_1.Part,.int .i64 v_1.Stamp,lst cI v_1.InStep]) rfl ?_
  simp only [za,B0,reduceIte,a7]
  refine kp rfl (Ret.of (fn:=x93) rfl (Run.of ?_)) (fun _ _ h=>h)
  have zf208:zj ([.ptr pb0 0,.ptr b164 (v_1.Part.toNat*5),.agg [.int .i64 v_1.Kind,.int .i64 v_1.Broker,.int .i64 v_1.Epoch,.int .i64 v_1.Part,.int .i64 v_1.Stamp,
    lst cI v_1.InStep]]++[]) 0 = .ptr pb0 0:=rfl
  have zf209:zj ([.ptr pb0 0,.ptr b164 (v_1.Part.toNat*5),.agg [.int .i64 v_1.Kind,.int .i64 v_1.Broker,.int .i64 v_1.Epoch,.int .i64 v_1.Part,.int .i64 v_1.Stamp,
    lst cI v_1.InStep]]++[]) 1 = .ptr b164 (v_1.Part.toNat*5):=rfl
  have zf210:zj ([.ptr pb0 0,.ptr b164 (v_1.Part.toNat*5),.agg [.int .i64 v_1.Kind,.int .i64 v_1.Broker,.int .i64 v_1.Epoch,.int .i64 v_1.Part,.int .i64 v_1.Stamp,
    lst cI v_1.InStep]]++[]) 2 = .agg [.int .i64 v_1.Kind,.int .i64 v_1.Broker,.int .i64 v_1.Epoch,.int .i64 v_1.Part,.int .i64 v_1.Stamp,lst cI v_1.InStep]:=rfl
  generalize zj ([.ptr pb0 0,.ptr b164 (v_1.Part.toNat*5),.agg [.int .i64 v_1.Kind,.int .i64 v_1.Broker,.int .i64 v_1.Epoch,.int .i64 v_1.Part,.int .i64 v_1.Stamp,
    lst cI v_1.InStep]]++[])=fr211 at zf208 zf209 zf210 ⊢
  simp only [x93,qh,qf,jp,zf208,B0,reduceIte,a7]
  refine jc (cs:=[.ptr pb0 0]) hS154 rfl rfl rfl (fun b212 h213 hS214=>?_)
  simp only [jp,zf209,B0,reduceIte,a7]
  refine jc (cs:=[.ptr b164 (v_1.Part.toNat*5)]) hS214 rfl rfl rfl (fun b216 h217 hS218=>?_)
  simp only [jp,zf210,B0,reduceIte,a7]
  refine jc (cs:=[.int .i64 v_1.Kind,.int .i64 v_1.Broker,.int .i64 v_1.Epoch,.int .i64 v_1.Part,.int .i64 v_1.Stamp,
    lst cI v_1.InStep]) hS218 rfl rfl rfl (fun b220 h221 hS222=>?_)
  simp only [qg,qa,B0,reduceIte,a7]
  refine zq (f0 hS222) hW (by simp only [B0,reduceIte,a7]) (fun h224 hS225=>?_)
  refine zq (f8 hS225) hW (by simp only [B0,reduceIte,a7]) (fun h226 hS227=>?_)
  refine zq hS227 hW (by simp only [B0,reduceIte,a7]) (fun h228 hS229=>?_)
  simp only [zp,qrg,qh,wi,q68,ji,z3,qt,a8,a9,b4,qs,z2,B0,reduceIte,a7]
  refine zc (v := .int .i64 v_1.Epoch) rfl ?_
  simp only [z2,B0,reduceIte,a7]
  refine zc (v := .ptr b164 (v_1.Part.toNat*5)) rfl ?_
  obtain ⟨c230,cs231,os232,hv233,hR234,hS235⟩:=a12 (a11 ph0_1 hb165 Partition.RO.len) hx162 jl Partition.RO.len (f0 hS229)
  obtain ⟨v237,c238,v241,c242,hv239,hv243,rfl,rfl⟩:=hR234
  have hS236:=a13 hS235
  simp only [yn,qt,z7,z3,a8,a9,b4,q9,z2,B0,reduceIte,a7]
  refine zc (v := .int .i64 x161.Epoch) ((a2s (o:=3) hv233 rfl hx162 hS236 (nle rfl)).trans rfl) ?_
  simp only [wt,qt,wm,jm,zm,q4n,qz,B0,reduceIte,a7]
  refine qx (t:=(decide (v_1.Epoch≠x161.Epoch))) (fun hc245=>?_) (fun hc245=>?_)
  ·rw [iteT hc245] at hF163
   simp only [qh,qf,qg,qa,q8,B0,reduceIte,a7]
   simp only [zg,B0,reduceIte,a7]
   simp only [qg,qa,q8,B0,reduceIte,a7]
   obtain ⟨c246,hv247,hS248⟩:=a1u (c:=c230) (os:=c238++(c242)) hv233 rfl hx162 jl (Partition.RI (x:=x161) hv239 hv243) (a1d (c1:=c238) (c2:=c242)
     (f0 (f0 (f0 hS236))))
   have hv249:=a1c hv247
   have he:=qj hF163
   subst he
   simp only [zg,B0,reduceIte,a7]
   exact ⟨pc0_0,pv0_1,c246,by first | trivial | rfl,ph0_0,hv249,(f0 (f0 hS248))⟩
  rw [iteF hc245] at hF163
  simp only [q61,qh,ji,z3,qt,a8,a9,b4,qs,z2,B0,reduceIte,a7]
  refine zc (v := .int .i64 v_1.Broker) rfl ?_
  simp only [z2,B0,reduceIte,a7]
  refine zc (v := .ptr b164 (v_1.Part.toNat*5)) rfl ?_
  simp only [yn,qt,z7,z3,a8,a9,b4,q9,z2,B0,reduceIte,a7]
  refine zc (v := .int .i64 x161.Leader) ((a2s (o:=2) hv233 rfl hx162 hS236 (nle rfl)).trans rfl) ?_
  simp only [wt,qt,wm,jm,zm,q7d,qz,B0,reduceIte,a7]
  refine qx (t:=(decide (v_1.Broker≠x161.Leader))) (fun hc250=>?_) (fun hc250=>?_)
  ·rw [iteT hc250] at hF163
   simp only [qh,qf,qg,qa,q8,B0,reduceIte,a7]
   simp only [zg,B0,reduceIte,a7]
   simp only [qg,qa,q8,B0,reduceIte,a7]
   obtain ⟨c251,hv252,hS253⟩:=a1u (c:=c230) (os:=c238++(c242)) hv233 rfl hx162 jl (Partition.RI (x:=x161) hv239 hv243) (a1d (c1:=c238) (c2:=c242)
     (f0 (f0 (f0 hS236))))
   have hv254:=a1c hv252
   have he:=qj hF163
   subst he
   simp only [zg,B0,reduceIte,a7]
   exact ⟨pc0_0,pv0_1,c251,by first | trivial | rfl,ph0_0,hv254,(f0 (f0 hS253))⟩
  rw [iteF hc250] at hF163
  simp only [q26,qh,ji,z3,qt,a8,a9,b4,qs,z2,B0,reduceIte,a7]
  refine zc (v := .int .i64 v_1.Stamp) rfl ?_
  simp only [z2,B0,reduceIte,a7]
  refine zc (v := .ptr b164 (v_1.Part.toNat*5)) rfl ?_
  simp only [yn,qt,z7,z3,a8,a9,b4,q9,z2,B0,reduceIte,a7]
  refine zc (v := .int .i64 x161.Stamp) ((a2s (o:=4) hv233 rfl hx162 hS236 (nle rfl)).trans rfl) ?_
  simp only [wt,qt,wm,jm,zm,qz,B0,reduceIte,a7]
  refine qx (t:=(decide (v_1.Stamp≠x161.Stamp))) (fun hc255=>?_) (fun hc255=>?_)
  ·rw [iteT hc255] at hF163
   simp only [qh,qf,qg,qa,q8,B0,reduceIte,a7]
   simp only [zg,B0,reduceIte,a7]
   simp only [qg,qa,q8,B0,reduceIte,a7]
   obtain ⟨c256,hv257,hS258⟩:=a1u (c:=c230) (os:=c238++(c242)) hv233 rfl hx162 jl (Partition.RI (x:=x161) hv239 hv243) (a1d (c1:=c238) (c2:=c242)
     (f0 (f0 (f0 hS236))))
   have hv259:=a1c hv257
   have he:=qj hF163
   subst he
   simp only [zg,B0,reduceIte,a7]
   exact ⟨pc0_0,pv0_1,c256,by first | trivial | rfl,ph0_0,hv259,(f0 (f0 hS258))⟩
  rw [iteF hc255] at hF163
  simp only [zf,ki,q6d,qh,qf,qp,qb,a8,a9,b4,qs,qm,B0,reduceIte,a7]
  refine qi (v:=lst cI v_1.InStep) rfl ?_
  obtain ⟨c260,hv261,hS262⟩:=a1u (c:=c230) (os:=c238++(c242)) hv233 rfl hx162 jl (Partition.RI (x:=x161) hv239 hv243) (a1d (c1:=c238) (c2:=c242)
    (f0 (f0 (f0 hS236))))
  have hv263:=a1c hv261
  simp only [qov,za,B0,reduceIte,a7]
  refine kp rfl (Ret.of (fn:=x94) rfl (Run.of ?_)) (fun _ _ h=>h)
  have zf264:zj ([lst cI v_1.InStep,.fn 97 [.ref [.ptr pb0 0] 0,.ref [.ptr b164 (v_1.Part.toNat*5)] 0]]++[]) 0=lst cI v_1.InStep:=rfl
  have zf265:zj ([lst cI v_1.InStep,.fn 97 [.ref [.ptr pb0 0] 0,.ref [.ptr b164 (v_1.Part.toNat*5)] 0]]++[]) 1 = .fn 97 [.ref [.ptr pb0 0] 0,
    .ref [.ptr b164 (v_1.Part.toNat*5)] 0]:=rfl
  generalize zj ([lst cI v_1.InStep,.fn 97 [.ref [.ptr pb0 0] 0,.ref [.ptr b164 (v_1.Part.toNat*5)] 0]]++[])=fr266 at zf264 zf265 ⊢
  simp only [x94,qh,qf,qg,qa,qo8,zf264,zf265,za,B0,reduceIte,a7]
  obtain ⟨v267,hx268,hF269⟩:=qk hF163
  refine kp rfl (R:=(fun u h'=>∃ c270,u = .int .i64 v267∧SlN Partition.R 5 39 pv0_1 v_0.Parts c270∧Sep h' lo (c270++([Blk1 pb0 [pv0_0,pv0_1,
    .int .i64 v_0.Next] 29]++(pc0_0++(S0)))))) (Ret.of (fn:=x98) rfl (Run.of ?_)) ?_
  ·have zf271:zj ([lst cI v_1.InStep,.fn 97 [.ref [.ptr pb0 0] 0,.ref [.ptr b164 (v_1.Part.toNat*5)] 0]]++[]) 0=lst cI v_1.InStep:=rfl
   have zf272:zj ([lst cI v_1.InStep,.fn 97 [.ref [.ptr pb0 0] 0,.ref [.ptr b164 (v_1.Part.toNat*5)] 0]]++[]) 1 = .fn 97 [.ref [.ptr pb0 0] 0,
     .ref [.ptr b164 (v_1.Part.toNat*5)] 0]:=rfl
   generalize zj ([lst cI v_1.InStep,.fn 97 [.ref [.ptr pb0 0] 0,.ref [.ptr b164 (v_1.Part.toNat*5)] 0]]++[])=fr273 at zf271 zf272 ⊢
   simp only [x98,qh,qf,qg,qa,qo9,zf271,zx,qb,z1,B0,reduceIte,a7]
   obtain ⟨oc276,hX278,hk279⟩:=jo hx268
   simp only [qpd]
   refine ku (σ:=Unit) v_1.InStep (fun i274 x275 _=>wh v_0 x161 i274 x275 )
     (fun s fr' h'=>fr' 0=lst cI v_1.InStep∧fr' 1 = .fn 97 [.ref [.ptr pb0 0] 0,.ref [.ptr b164 (v_1.Part.toNat*5)] 0]∧Sep h' lo ([Blk1 pb0 [pv0_0,pv0_1,
     .int .i64 v_0.Next] 29]++(c260++(pc0_0++(S0))))) hX278 ⟨zf271,zf272,(f0 (f8 (f0 hS262)))⟩ (by simp only [B0,reduceIte,
     a7]) (by simp only [B0,reduceIte,a7]) (fun _ _ _ h=>h) rfl rfl (fun _ _ _ _ h=>h) (fun _ _ _ _ h=>h) (fun _ _ _ _ h=>h) (by decide) ?_ ?_
   ·rintro i274 x275 _ fr288 h289 hx293 ⟨f291,f292,hS290⟩ f294 f295 oc277 hF280 hr281 Q282 hN283 hB287 hK284 hR285 hE286
    unfold wh at hF280
    simp only [qpe,qh,qf,f294,qg,qa,qp0,f292,f291,jf,B0,reduceIte,a7]
    refine qi (v := .ref (cI x275) 0) (kt hx293 rfl) ?_
    simp only [qm,B0,reduceIte,a7]
    refine qi (v := .int .i64 x275) rfl ?_
    simp only [za,B0,reduceIte,a7]
    refine kp rfl (Ret.of (fn:=x97) rfl (Run.of ?_)) (fun _ _ h=>h)
    have zf296:zj ([.int .i64 x275]++[.ref [.ptr pb0 0] 0,.ref [.ptr b164 (v_1.Part.toNat*5)] 0]) 0 = .int .i64 x275:=rfl
    have zf297:zj ([.int .i64 x275]++[.ref [.ptr pb0 0] 0,.ref [.ptr b164 (v_1.Part.toNat*5)] 0]) 1 = .ref [.ptr pb0 0] 0:=rfl
    have zf298:zj ([.int .i64 x275]++[.ref [.ptr pb0 0] 0,.ref [.ptr b164 (v_1.Part.toNat*5)] 0]) 2 = .ref [.ptr b164 (v_1.Part.toNat*5)] 0:=rfl
    generalize zj ([.int .i64 x275]++[.ref [.ptr pb0 0] 0,.ref [.ptr b164 (v_1.Part.toNat*5)] 0])=fr299 at zf296 zf297 zf298 ⊢
    simp only [x97,qh,qf,qg,qa,q7i,zf297,qm,B0,reduceIte,a7]
    refine qi (v := .ptr pb0 0) rfl ?_
    simp only [kx,qb,z7,qp,a8,a9,b4,q9,qm,B0,reduceIte,a7]
    refine qi (v:=pv0_0) ((z6 (l9 _ _ _ hS290)).trans rfl) ?_
    obtain ⟨x300,hx301,hF302⟩:=qk hF280
    simp only [zf296,qg,jf,B0,reduceIte,a7]
    refine qi (a18 ph0_0 hb11 hx301) ?_
    simp only [qp,qb,a8,a9,b4,q9,qm,B0,reduceIte,a7]
    refine qi (v := .bool x300.Fenced) ((SlF.ld (o:=2) ph0_0 (f0 hS290) hb11 hx301 (fun _=>rfl) (nle rfl)).trans rfl) ?_
    simp only [qg,B0,reduceIte,a7]
    obtain ⟨v306,hx307,hF308⟩:=qk hF302
    refine zr 8 (fun fr' h'=>Sep h' lo ([Blk1 pb0 [pv0_0,pv0_1,.int .i64 v_0.Next] 29]++(c260++(pc0_0++(S0))))∧fr' 21 = .bool v306) (fun Q303 hN304=>?_) ?_
    ·simp only [d7,e9]
     simp only [qc (g:=13),B0,reduceIte,a7]
     refine qy (t:=x300.Fenced) (fun hg305=>?_) (fun hg305=>?_)
     ·rw [iteT hg305] at hx307
      simp only [hg305,qc (g:=13),qw,zf298,qm,B0,reduceIte,a7]
      refine qi (v := .ptr b164 (v_1.Part.toNat*5)) rfl ?_
      obtain ⟨c309,cs310,os311,hv312,hR313,hS314⟩:=a12 (a11 hv263 hb165 Partition.RO.len) hx162 jl Partition.RO.len (f8 hS290)
      obtain ⟨v316,c317,v320,c321,hv318,hv322,rfl,rfl⟩:=hR313
      have hS315:=a13 hS314
      simp only [hg305,qc (g:=13),qw,kx,qb,z7,qp,a8,a9,b4,q9,qm,B0,reduceIte,
        a7]
      refine qi (v:=v320) ((a2s (o:=1) hv312 rfl hx162 hS315 (nle rfl)).trans rfl) ?_
      obtain ⟨v324,hx325,hF326⟩:=qk hx307
      simp only [hg305,qc (g:=13),qw,zf296,qg,za,B0,reduceIte,a7]
      refine ja rfl (ql (a0g hv322 (f0 hS315) rfl (fun _=>rfl) (fun _=>rfl)) (ql qu zd)) (xh
        (fun b hb=>decide_eq_true hb) x161.InStep x275 v324 hx325) ?_
      simp only [hg305,qc (g:=13),qw,je,qb,jt,qr,zh,qa,qn,B0,reduceIte,a7]
      have e327:=qj hF326
      exact hN304 _ _ ⟨(f0 (f0 (f0 hS290))),by rw [←e327]; simp only [B0,reduceIte,a7]⟩
     ·rw [iteF hg305] at hx307
      simp only [hg305,qc (g:=13),zy,qr,qb,zi,qa,qn,B0,reduceIte,a7]
      have e328:=qj hx307
      exact hN304 _ _ ⟨(f0 (f0 (f0 hS290))),by rw [←e328]; simp only [B0,reduceIte,a7]⟩
    rintro fr329 h331 ⟨hS332,f330⟩
    simp only [b7,e8]
    simp only [f330,qg,qa,q8,B0,reduceIte,a7]
    simp only [zg,B0,reduceIte,a7]
    simp only [qa,qp7,qz,B0,reduceIte,a7]
    refine qx (t:=v306) (fun hc333=>?_) (fun hc333=>?_)
    ·rw [iteT hc333] at hF308
     simp only [qh,qf,qg,qa,q8,B0,reduceIte,a7]
     have e334:=qj hF308
     subst e334
     have ho335:=hr281 _ rfl
     have hk336:=hk279
     rw [ho335] at hk336
     dsimp only [jnO] at hk336
     apply hR285
     have he:=qj hk336
     subst he
     simp only [zg,B0,reduceIte,a7]
     exact ⟨c260,by first | trivial | rfl,hv263,(f0 (f8 (f0 hS332)))⟩
    rw [iteF hc333] at hF308
    simp only [zf,qn,B0,reduceIte,a7]
    have e337:=qj hF308
    exact hN283 _ _ _ e337.symm ⟨f291,f292,(f0 (f0 (f0 hS332)))⟩ (f294) (f295)
   rintro _ fr339 h340 rfl ⟨f342,f343,hS341⟩
   dsimp only [jnO] at hk279
   unfold qbp at hk279
   simp only [qh,qf,qg,qa,q8,B0,reduceIte,a7]
   have he:=qj hk279
   subst he
   simp only [zg,B0,reduceIte,a7]
   exact ⟨c260,by first | trivial | rfl,hv263,(f0 (f8 (f0 hS341)))⟩
  rintro _ h345 ⟨c270,rfl,hv347,hS346⟩
  simp only [qv,qb,qcg,qg,qa,q8,B0,reduceIte,a7]
  simp only [zg,B0,reduceIte,a7]
  simp only [qg,qa,q53,qh,ji,z3,qt,a8,a9,b4,qs,z2,B0,reduceIte,a7]
  refine zc (v:=lst cI v_1.InStep) rfl ?_
  simp only [z2,B0,reduceIte,a7]
  refine zc (v := .ptr b164 (v_1.Part.toNat*5)) rfl ?_
  obtain ⟨c348,cs349,os350,hv351,hR352,hS353⟩:=a12 (a11 hv347 hb165 Partition.RO.len) hx162 jl Partition.RO.len hS346
  obtain ⟨v355,c356,v359,c360,hv357,hv361,rfl,rfl⟩:=hR352
  have hS354:=a13 hS353
  simp only [yn,qt,z7,z3,a8,a9,b4,q9,z2,B0,reduceIte,a7]
  refine zc (v:=v355) ((a2s (o:=0) hv351 rfl hx162 hS354 (nle rfl)).trans rfl) ?_
  obtain ⟨v363,hx364,hF365⟩:=qk hF269
  simp only [xx,B0,reduceIte,a7]
  refine qga rfl (ql zn (ql (a0g hv357 (f8 hS354) rfl (fun _=>rfl) (fun _=>rfl)) zd)) (qjb
    (fun b hb=>decide_eq_true hb) v_1.InStep x161.Homes v363 hx364) ?_
  simp only [qhi,qt,jt,jm,B0,reduceIte,a7]
  simp only [zo (g:=44),B0,reduceIte,a7]
  refine yu (t:=(!v363)) (fun hg366=>?_) (fun hg366=>?_)
  ·rw [iteT hg366] at hF365
   simp only [hg366,zo (g:=44),wj,yd,qt,zh,jm,zo (g:=54),zm,qz,qhh,qh,qf,qg,
     qa,q8,B0,reduceIte,a7]
   simp only [zg,B0,reduceIte,a7]
   simp only [qg,qa,q8,B0,reduceIte,a7]
   obtain ⟨c367,hv368,hS369⟩:=a1u (c:=c348) (os:=c356++(c360)) hv351 rfl hx162 jl (Partition.RI (x:=x161) hv357 hv361) (a1d (c1:=c356) (c2:=c360)
     (f0 (f0 (f0 hS354))))
   have hv370:=a1c hv368
   have he:=qj hF365
   subst he
   simp only [zg,B0,reduceIte,a7]
   exact ⟨pc0_0,pv0_1,c367,by first | trivial | rfl,ph0_0,hv370,(f0 (f0 hS369))⟩
  rw [iteF hg366] at hF365
  simp only [hg366,zo (g:=44),zz,z3,qt,a8,a9,b4,qs,z2,B0,reduceIte,a7]
  refine zc (v:=lst cI v_1.InStep) rfl ?_
  simp only [hg366,zo (g:=44),zz,z2,B0,reduceIte,a7]
  refine zc (v := .ptr b164 (v_1.Part.toNat*5)) rfl ?_
  simp only [hg366,zo (g:=44),zz,yn,qt,z7,z3,a8,a9,b4,q9,z2,B0,reduceIte,
    a7]
  refine zc (v := .int .i64 x161.Leader) ((a2s (o:=2) hv351 rfl hx162 hS354 (nle rfl)).trans rfl) ?_
  obtain ⟨v371,hx372,hF373⟩:=qk hF365
  simp only [hg366,zo (g:=44),zz,xx,B0,reduceIte,a7]
  refine qga rfl (ql zn (ql qu zd)) (xh (fun b hb=>decide_eq_true hb) v_1.InStep x161.Leader v371 hx372) ?_
  simp only [hg366,zo (g:=44),zz,qhi,qt,jt,yd,zi,jm,B0,reduceIte,a7]
  refine qf8 2 (fun fr' h'=>Sep h' lo (c348++([Blk1 pb0 [pv0_0,pv0_1,
    .int .i64 v_0.Next] 29]++(c356++(c360++(pc0_0++(S0))))))∧fr' 56 = .bool ((!v371)||(decide ((0:Int)≤v267)))∧fr' 4 = .ref [.ptr b164
    (v_1.Part.toNat*5)] 0∧fr' 5 = .ref [.int .i64 v_1.Kind,.int .i64 v_1.Broker,.int .i64 v_1.Epoch,.int .i64 v_1.Part,.int .i64 v_1.Stamp,
    lst cI v_1.InStep] 0) rfl (fun Q374 hN375=>?_) ?_
  ·simp only [d7,e9]
   simp only [zo (g:=54),B0,reduceIte,a7]
   refine yu (t:=(!v371)) (fun hg376=>?_) (fun hg376=>?_)
   ·simp only [hg376,zo (g:=54),wj,yd,qt,zh,zm,qn,B0,reduceIte,a7]
    exact hN375 _ _ ⟨(o6 (o6 (i5 (i5 (o6 hS354))))),by rw [orT hg376]; simp only [B0,reduceIte,a7],rfl,rfl⟩
   ·simp only [hg376,zo (g:=54),zz,jm,qt,yd,zi,zm,qn,B0,reduceIte,a7]
    exact hN375 _ _ ⟨(o6 (o6 (i5 (i5 (o6 hS354))))),by rw [orF hg376]; simp only [B0,reduceIte,a7],rfl,rfl⟩
  rintro fr377 h381 ⟨hS382,f378,f379,f380⟩
  simp only [b7,e8]
  simp only [zm,f378,qz,B0,reduceIte,a7]
  refine qx (t:=((!v371)||(decide ((0:Int)≤v267)))) (fun hc383=>?_) (fun hc383=>?_)
  ·rw [iteT hc383] at hF373
   simp only [qh,qf,qg,qa,q8,B0,reduceIte,a7]
   simp only [zg,B0,reduceIte,a7]
   simp only [qg,qa,q8,B0,reduceIte,a7]
   obtain ⟨c384,hv385,hS386⟩:=a1u (c:=c348) (os:=c356++(c360)) hv351 rfl hx162 jl (Partition.RI (x:=x161) hv357 hv361) (a1d (c1:=c356) (c2:=c360)
     (f0 (i5 (i5 hS382))))
   have hv387:=a1c hv385
   have he:=qj hF373
   subst he
   simp only [zg,B0,reduceIte,a7]
   exact ⟨pc0_0,pv0_1,c384,by first | trivial | rfl,ph0_0,hv387,(f0 (f0 hS386))⟩
  rw [iteF hc383] at hF373
  simp only [zf,q56,qh,ji,f379,qbc,qci,B0,reduceIte,a7]
  refine zc (v := .ptr b164 (v_1.Part.toNat*5)) rfl ?_
  simp only [qa0,evp,B0,reduceIte,a7]
  refine xm (n:=1) (f:=cI) ([] : List Int) hS382 rfl rfl (fun v389 c390 h391 hv392 hS393 hq388=>?_)
  simp only [f380,z3,qt,a8,a9,b4,qs,z2,B0,reduceIte,a7]
  refine zc (v:=lst cI v_1.InStep) rfl ?_
  simp only [qeg,B0,reduceIte,a7]
  obtain ⟨l395,hx396,hF397⟩:=qk hF373
  have hq398:=nwq (fun z hz=>Sep.dj (f8 (f0 hS393)) qcb (a1r hv392 z hz))
  refine qhq qf0 ?_
  refine qbv (f:=cI) hv392 hS393 hW (fun _=>rfl) (fun _=>rfl) (wk (fun _=>rfl)) hx396 (fun v399 c400 h401 hv402 hS403=>?_)
  simp only [yn,qt,z7,z3,a8,a9,b4,q9,uy,B0,reduceIte,a7]
  refine qcp (n:=5) (us:=[v399]) (cs:=[v355,v359,.int .i64 x161.Leader,.int .i64 x161.Epoch,.int .i64 x161.Stamp]) (o:=1) (cs':=[v355,v399,
    .int .i64 x161.Leader,.int .i64 x161.Epoch,
    .int .i64 x161.Stamp]) (kw (n7 hv402)) hv351 rfl hx162 (f8 hS403) hW rfl (qo (n7 hv402) zl) (nle rfl) rfl (fun c407 h405 hv408 hS406=>?_)
  simp only [zm,q60,qh,qf,f379,qm,B0,reduceIte,a7]
  refine qi (v := .ptr b164 (v_1.Part.toNat*5)) rfl ?_
  simp only [kx,qb,z7,qp,a8,a9,b4,q9,qm,B0,reduceIte,a7]
  refine qi (v := .int .i64 x161.Stamp) ((a2s (o:=4) hv408 rfl hx162 hS406 (nle rfl)).trans rfl) ?_
  simp only [qv,qb,qal,kx,z7,qp,a8,a9,b4,q9,zk,B0,reduceIte,a7]
  refine qdk (n:=5) (us:=[.int .i64 (d8 .i64 (x161.Stamp+1))]) (cs:=[v355,v399,.int .i64 x161.Leader,.int .i64 x161.Epoch,
    .int .i64 x161.Stamp]) (o:=4) (cs':=[v355,v399,.int .i64 x161.Leader,.int .i64 x161.Epoch,
    .int .i64 (d8 .i64 (x161.Stamp+1))]) rfl hv408 rfl hx162 hS406 hW rfl rfl (nle rfl) rfl (fun c411 h409 hv412 hS410=>?_)
  simp only [qa,qh,qf,qg,q8,B0,reduceIte,a7]
  simp only [zg,B0,reduceIte,a7]
  simp only [qg,qa,q8,B0,reduceIte,a7]
  obtain ⟨c413,hv414,hS415⟩:=SlG.cls (e':=(Partition.mk x161.Homes l395 x161.Leader x161.Epoch (d8 .i64 (x161.Stamp+1)))) (c:=c411) (os:=c356 ++
    (c400)) hv412 rfl hx162 jl (Partition.RI (x:=(Partition.mk x161.Homes l395 x161.Leader x161.Epoch (d8 .i64 (x161.Stamp+1)))) hv357 hv402) (a1d
    (c1:=c356) (c2:=c400) (f0 (i5 (f8 hS410))))
  have hx416:=k7 (x':=(Partition.mk x161.Homes l395 x161.Leader x161.Epoch (d8 .i64 (x161.Stamp+1)))) hx162
  have hv417:=a1c hv414
  have he:=qj hF397
  subst he
  simp only [zg,B0,reduceIte,a7]
  exact ⟨pc0_0,pv0_1,c413,by first | trivial | rfl,ph0_0,hv417,(f0 (f0 (l6 (f0 hS415))))⟩
 rw [iteF hc159] at hk144
 simp only [zf,ki,qh,qf,qg,qa,q8,B0,reduceIte,a7]
 have he:=qj hk144
 subst he
 simp only [zg,B0,reduceIte,a7]
 exact ⟨pc0_0,pv0_1,pc0_1,by first | trivial | rfl,ph0_0,ph0_1,(f0 (f0 (f0 hS154)))⟩
end Go.Proofs.Ytjloihcijdcpeaa.X
namespace Go.Proofs.Ytjloihcijdcpeaa.X
open Go
theorem qj9 {W:Nat→Bool}{h:Heap} (hW:∀ b,
  (geL h.length) b→W b=true) (v_0:Control) (v_1:Command) (r:Control × Int) (hF:qch v_0 v_1=some r) : Ret E W 49 [.agg [lst qe v_0.Brokers,
  lst qd v_0.Parts,.int .i64 v_0.Next],.agg [.int .i64 v_1.Kind,.int .i64 v_1.Broker,.int .i64 v_1.Epoch,.int .i64 v_1.Part,.int .i64 v_1.Stamp,
  lst cI v_1.InStep]] h (fun v h'=>∃ rv0_0 rc0_0 rv0_1 rc0_1,v = .tup [.agg [rv0_0,rv0_1,.int .i64 r.1.Next],
  .int .i64 r.2]∧SlF qe 3 86 rv0_0 r.1.Brokers rc0_0∧SlN Partition.R 5 39 rv0_1 r.1.Parts rc0_1∧Sep h' (geL h.length) (rc0_0++(rc0_1++([])))):=by
 refine Ret.of (fn:=x49) rfl (Run.of ?_)
 unfold qch at hF
 have zf0:zj [.agg [lst qe v_0.Brokers,lst qd v_0.Parts,.int .i64 v_0.Next],.agg [.int .i64 v_1.Kind,.int .i64 v_1.Broker,.int .i64 v_1.Epoch,
   .int .i64 v_1.Part,.int .i64 v_1.Stamp,lst cI v_1.InStep]] 0 = .agg [lst qe v_0.Brokers,lst qd v_0.Parts,.int .i64 v_0.Next]:=rfl
 have zf1:zj [.agg [lst qe v_0.Brokers,lst qd v_0.Parts,.int .i64 v_0.Next],.agg [.int .i64 v_1.Kind,.int .i64 v_1.Broker,.int .i64 v_1.Epoch,
   .int .i64 v_1.Part,.int .i64 v_1.Stamp,lst cI v_1.InStep]] 1 = .agg [.int .i64 v_1.Kind,.int .i64 v_1.Broker,.int .i64 v_1.Epoch,.int .i64 v_1.Part,
   .int .i64 v_1.Stamp,lst cI v_1.InStep]:=rfl
 generalize zj [.agg [lst qe v_0.Brokers,lst qd v_0.Parts,.int .i64 v_0.Next],.agg [.int .i64 v_1.Kind,.int .i64 v_1.Broker,.int .i64 v_1.Epoch,
   .int .i64 v_1.Part,.int .i64 v_1.Stamp,lst cI v_1.InStep]]=fr0 at zf0 zf1 ⊢
 have hS:Sep h (geL h.length) []:=a0t h
 simp only [x49,qh,qf,jp,zf0,B0,reduceIte,a7]
 refine jc (cs:=[lst qe v_0.Brokers,lst qd v_0.Parts,.int .i64 v_0.Next]) hS rfl rfl rfl (fun b1 h2 hS3=>?_)
 simp only [jp,zf1,B0,reduceIte,a7]
 refine jc (cs:=[.int .i64 v_1.Kind,.int .i64 v_1.Broker,.int .i64 v_1.Epoch,.int .i64 v_1.Part,.int .i64 v_1.Stamp,
   lst cI v_1.InStep]) hS3 rfl rfl rfl (fun b5 h6 hS7=>?_)
 simp only [z5,B0,reduceIte,a7]
 refine zt hS7 (fun b9 h10 hS11=>?_)
 simp only [qg,qa,B0,reduceIte,a7]
 refine zq (f0 hS11) hW (by simp only [B0,reduceIte,a7]) (fun h13 hS14=>?_)
 refine zq (f8 hS14) hW (by simp only [B0,reduceIte,a7]) (fun h15 hS16=>?_)
 simp only [zp,qtc,qh,qf,qm,B0,reduceIte,a7]
 refine qi (v := .agg [lst qe v_0.Brokers,lst qd v_0.Parts,.int .i64 v_0.Next]) rfl ?_
 obtain ⟨v17,hx18,hF19⟩:=qk hF
 simp only [za,B0,reduceIte,a7]
 refine wq rfl hS16 (ql (z4 (ql zn (ql zn (ql qu zd)))) zd) (qdi (fun b hb=>decide_eq_true hb) v_0 v17 hx18) ?_
 rintro _ h28 ⟨v20,c21,v24,c25,rfl,hv22,hv26,hS29⟩
 refine ⟨_,qeu (qo (a0k hv22) (qo (a01 hv26) (qo rfl zl))),hS29,(jg (a1n hv22 (fun _=>rfl)) (jg (a2d hv26 Partition.RO) ye)),
   fun h30 hS31=>?_⟩
 have hS32:Sep h30 (geL h.length) (c21++(c25++([Blk1 b9 [.nil,.nil,.int .i64 0] 29]++([])))):=by simpa only [f6,o8] using hS31
 simp only [z5,B0,reduceIte,a7]
 refine zt hS32 (fun b33 h34 hS35=>?_)
 simp only [zk,B0,reduceIte,a7]
 refine zb (us:=[v20,v24,.int .i64 v17.Next]) rfl (cs':=[v20,v24,
   .int .i64 v17.Next]) hS35 hW rfl (qo (n7 hv22) (qo (t7 hv26) (qo rfl zl))) (nle rfl) rfl (fun h37 hS38=>?_)
 simp only [qa,qv2,qh,qf,qm,B0,reduceIte,a7]
 refine qi (v := .agg [.int .i64 v_1.Kind,.int .i64 v_1.Broker,.int .i64 v_1.Epoch,.int .i64 v_1.Part,.int .i64 v_1.Stamp,lst cI v_1.InStep]) rfl ?_
 obtain ⟨v39,hx40,hF41⟩:=qk hF19
 simp only [za,B0,reduceIte,a7]
 refine kp rfl (qjo hW b33 v17 v20 c21 hv22 v24 c25 hv26 v_1 v39 hx40 (f0 (f0 (f0 hS38)))) ?_
 rintro _ h48 ⟨c42,v44,c45,rfl,hv43,hv46,hS49⟩
 simp only [qg,qa,qqg,qh,qf,qv,qb,wm,q3a,qz,B0,reduceIte,a7]
 refine qx (t:=(decide (v39.1≠0))) (fun hc50=>?_) (fun hc50=>?_)
 ·rw [iteT hc50] at hF41
  simp only [qzt,qh,qf,qm,B0,reduceIte,a7]
  refine qi (v := .agg [lst qe v_0.Brokers,lst qd v_0.Parts,.int .i64 v_0.Next]) rfl ?_
  obtain ⟨v51,hx52,hF53⟩:=qk hF41
  simp only [za,B0,reduceIte,a7]
  refine wq rfl hS49 (ql (z4 (ql zn (ql zn (ql qu zd)))) zd) (qdi (fun b hb=>decide_eq_true hb) v_0 v51 hx52) ?_
  rintro _ h62 ⟨v54,c55,v58,c59,rfl,hv56,hv60,hS63⟩
  refine ⟨_,qeu (qo (a0k hv56) (qo (a01 hv60) (qo rfl zl))),hS63,(jg (a1n hv56 (fun _=>rfl)) (jg (a2d hv60 Partition.RO) ye)),
    fun h64 hS65=>?_⟩
  have hS66:Sep h64 (geL h.length) (c55++(c59++([Blk1 b33 [v20,v44,.int .i64 v39.2.Next] 29]++(c42++(c45++([Blk1 b9 [.nil,.nil,
    .int .i64 0] 29]++([]))))))):=by simpa only [f6,o8] using hS65
  simp only [qg,zk,B0,reduceIte,a7]
  refine zb (us:=[v54,v58,.int .i64 v51.Next]) rfl (cs':=[v54,v58,
    .int .i64 v51.Next]) (s7 hS66) hW rfl (qo (n7 hv56) (qo (t7 hv60) (qo rfl zl))) (nle rfl) rfl (fun h67 hS68=>?_)
  simp only [qg,qa,q8,B0,reduceIte,a7]
  have he:=qj hF53
  subst he
  refine j8 (ql (kn (bb:=b9) (oo:=0) (v := .agg [v54,v58,
    .int .i64 v51.Next]) (rfl) ((zw (l9 _ _ _ hS68)).trans rfl)) (ql (yl (v := .int .i64 v39.1) (rfl)) zd)) ?_
  exact ⟨v54,c55,v58,c59,by first | trivial | rfl,hv56,hv60,(f8 (f8 (l6 (f0 (l6 (f0 (l6 (f0 (l6 (hS68))))))))))⟩
 rw [iteF hc50] at hF41
 simp only [zf,qww,qh,qf,qp,qb,a8,a9,b4,q9,qm,B0,reduceIte,a7]
 refine qi (v:=v20) ((z6 (l9 _ _ _ hS49)).trans rfl) ?_
 simp only [zx,qb,SlF.plen hv43,qg,qa,B0,reduceIte,a7]
 obtain ⟨oc77,hX79,hk80⟩:=jo hF41
 simp only [q3n]
 refine qa8 (σ:=(List Broker)) (fun i75 s109=>qb9 i75 s109) (fun s fr' h'=>∃ c73,fr' 2 = .ref [lst qe v_0.Brokers,
   lst qd v_0.Parts,.int .i64 v_0.Next] 0∧fr' 4 = .ptr b9 0∧fr' 6 = .ptr b33 0∧SlF qe 3 86 v20 s c73∧Sep h' (geL h.length) ([Blk1 b9 [.nil,
   .nil,.int .i64 0] 29]++([Blk1 b33 [v20,v44,.int .i64 v39.2.Next] 29]++(c73++(c45++([])))))) hX79 ⟨c42,rfl,rfl,rfl,hv43,
   (i5 (f0 (f0 (f0 hS49))))⟩ (by simp only [B0,reduceIte,a7]) (by simp only [B0,reduceIte,
   a7]) (fun _ _ _ h=>h) rfl rfl (fun _ _ _ _ h=>h) (fun _ _ _ _ h=>h) (fun _ _ _ _ h=>h) (by decide) ?_ ?_
 ·rintro i75 s72 fr89 h90 hx95 ⟨c73,f92,f93,f94,hv74,hS91⟩ f96 f97 oc78 hF81 hr82 Q83 hN84 hB88 hK85 hR86 hE87
  unfold qb9 at hF81
  simp only [q6b,qh,qf,f96,qg,qa,qzw,ji,f94,z3,qt,a8,a9,b4,q9,z2,B0,
    reduceIte,a7]
  refine zc (v:=v20) ((z6 (l9 _ _ _ (f8 hS91))).trans rfl) ?_
  simp only [jm,qt,f94,z3,a8,a9,b4,q9,z2,B0,reduceIte,a7]
  refine zc (v:=v20) ((z6 (l9 _ _ _ (f8 hS91))).trans rfl) ?_
  obtain ⟨x98,hx99,hF100⟩:=qk hF81
  simp only [jm,qt,wn,B0,reduceIte,a7]
  obtain ⟨b101,hb102⟩:=a1t hv74 (kq hx99)
  refine zc (a18 hv74 hb102 hx99) ?_
  simp only [z3,qt,a8,a9,b4,q9,z2,B0,reduceIte,a7]
  refine zc (v := .int .i64 x98.Left) ((SlF.ld (o:=1) hv74 (f0 hS91) hb102 hx99 (fun _=>rfl) (nle rfl)).trans rfl) ?_
  simp only [wt,qt,z8,wn,B0,reduceIte,a7]
  refine zc (a18 hv74 hb102 hx99) ?_
  simp only [z3,qt,a8,a9,b4,q9,uy,B0,reduceIte,a7]
  refine qfv (f:=qe) (x':=(Broker.mk x98.Epoch x98.Left (decide (x98.Left=0)))) (o:=2) hv74 (f0 hS91) hW hb102 hx99 (fun _=>rfl) rfl rfl
    (nle rfl) rfl (fun c105 h103 hv106 hS104=>?_)
  have hx107:=k7 (x':=(Broker.mk x98.Epoch x98.Left (decide (x98.Left=0)))) hx99
  simp only [zm,qn,B0,reduceIte,a7]
  have e108:=qj hF100
  exact hN84 _ _ _ e108.symm ⟨c105,f92,f93,f94,hv106,(i5 (i5 (f8 (i5 hS104))))⟩ (f96) (f97)
 rintro s110 fr113 h114 rfl ⟨c111,f116,f117,f118,hv112,hS115⟩
 dsimp only [jnO] at hk80
 unfold qdq at hk80
 simp only [qqo,qh,qf,f118,qp,qb,a8,a9,b4,q9,qm,B0,reduceIte,a7]
 refine qi (v:=v44) ((z6 (l9 _ _ _ (f8 hS115))).trans rfl) ?_
 simp only [zx,qb,a2h hv46,qg,qa,B0,reduceIte,a7]
 obtain ⟨oc127,hX129,hk130⟩:=jo hk80
 simp only [qsp]
 refine qa8 (σ:=(List Partition)) (fun i125 s412=>wu v_0 v39 s110 i125 s412) (fun s fr' h'=>∃ c123,fr' 2 = .ref [lst qe v_0.Brokers,
   lst qd v_0.Parts,.int .i64 v_0.Next] 0∧fr' 4 = .ptr b9 0∧fr' 6 = .ptr b33 0∧SlN Partition.R 5 39 v44 s c123∧Sep h' (geL h.length) ([Blk1 b9 [.nil,
   .nil,.int .i64 0] 29]++([Blk1 b33 [v20,v44,.int .i64 v39.2.Next] 29]++(c111++(c123++([])))))) hX129 ⟨c45,f116,f117,f118,hv46,
   (i5 (i5 (i5 (i5 hS115))))⟩ (by simp only [B0,reduceIte,a7]) (by simp only [B0,reduceIte,
   a7]) (fun _ _ _ h=>h) rfl rfl (fun _ _ _ _ h=>h) (fun _ _ _ _ h=>h) (fun _ _ _ _ h=>h) (by decide) ?_ ?_
 ·rintro i125 s122 fr139 h140 hx145 ⟨c123,f142,f143,f144,hv124,hS141⟩ f146 f147 oc128 hF131 hr132 Q133 hN134 hB138 hK135 hR136 hE137
  unfold wu at hF131
  simp only [qt7,qh,qf,f146,qg,qa,qsj,f144,qp,qb,a8,a9,b4,q9,qm,B0,reduceIte,
    a7]
  refine qi (v:=v44) ((z6 (l9 _ _ _ (f8 hS141))).trans rfl) ?_
  obtain ⟨x148,hx149,hF150⟩:=qk hF131
  simp only [qg,jf,B0,reduceIte,a7]
  obtain ⟨b151,hb152⟩:=SlN.isrow hv124 (kq hx149)
  refine qi (SlN.ia hv124 hb152 hx149) ?_
  obtain ⟨c153,cs154,os155,hv156,hR157,hS158⟩:=a12 (a11 hv124 hb152 Partition.RO.len) hx149 jl Partition.RO.len (i5 hS141)
  obtain ⟨v160,c161,v164,c165,hv162,hv166,rfl,rfl⟩:=hR157
  have hS159:=a13 hS158
  simp only [qg,qa,qsz,qh,ji,jm,qt,yn,z7,z3,a8,a9,b4,q9,z2,B0,
    reduceIte,a7]
  refine zc (v := .int .i64 x148.Leader) ((a2s (o:=2) hv156 rfl hx149 hS159 (nle rfl)).trans rfl) ?_
  simp only [wt,qt,z8,jm,B0,reduceIte,a7]
  obtain ⟨v171,hx172,hF173⟩:=qk hF150
  refine qf8 10 (fun fr' h'=>Sep h' (geL h.length) ([Blk1 b9 [.nil,.nil,.int .i64 0] 29]++([Blk1 b33 [v20,v44,
    .int .i64 v39.2.Next] 29]++(c153++(c111++(c161++(c165++([])))))))∧fr' 64 = .bool v171∧fr' 2 = .ref [lst qe v_0.Brokers,
    lst qd v_0.Parts,.int .i64 v_0.Next] 0∧fr' 4 = .ptr b9 0∧fr' 6 = .ptr b33 0∧fr' 9 = .int .i64 (i125:Int)∧fr' 10 = .ptr b151
    ((i125:Int).toNat*5)∧fr' 41 = .int .i64 (b6 v39.2.Parts:Int)∧fr' 42 = .int .i64 (i125:Int)) rfl (fun Q168 hN169=>?_) ?_
  ·simp only [d7,e9]
   simp only [zo (g:=54),B0,reduceIte,a7]
   refine yu (t:=(decide (x148.Leader=(-1)))) (fun hg170=>?_) (fun hg170=>?_)
   ·rw [iteT hg170] at hx172
    simp only [hg170,zo (g:=54),wj,yd,qt,zh,zm,qn,B0,reduceIte,a7]
    have e174:=qj hx172
    exact hN169 _ _ ⟨(s7 (s7 (i5 (s7 (f0 (f0 hS159)))))),by rw [←e174]; simp only [B0,reduceIte,a7],f142,f143,f144,rfl,rfl,f147,
      f146⟩
   ·rw [iteF hg170] at hx172
    simp only [hg170,zo (g:=54),zz,f144,z3,qt,a8,a9,b4,q9,z2,B0,reduceIte,a7]
    refine zc (v:=v20) ((z6 (l9 _ _ _ (o6 hS159))).trans rfl) ?_
    simp only [hg170,zo (g:=54),zz,jm,qt,yn,z7,z3,a8,a9,b4,q9,z2,B0,reduceIte,
      a7]
    refine zc (v := .int .i64 x148.Leader) ((a2s (o:=2) hv156 rfl hx149 hS159 (nle rfl)).trans rfl) ?_
    obtain ⟨x175,hx176,hF177⟩:=qk hx172
    simp only [hg170,zo (g:=54),zz,wn,B0,reduceIte,a7]
    obtain ⟨b178,hb179⟩:=a1t hv112 (kq hx176)
    refine zc (a18 hv112 hb179 hx176) ?_
    simp only [hg170,zo (g:=54),zz,z3,qt,a8,a9,b4,q9,z2,B0,reduceIte,a7]
    refine zc (v := .bool x175.Fenced) ((SlF.ld (o:=2) hv112 (s7 hS159) hb179 hx176 (fun _=>rfl) (nle rfl)).trans rfl) ?_
    simp only [hg170,yd,qt,zi,zm,qn,B0,reduceIte,a7]
    have e180:=qj hF177
    exact hN169 _ _ ⟨(s7 (s7 (i5 (s7 (f0 (f0 hS159)))))),by rw [←e180]; simp only [B0,reduceIte,a7],f142,f143,f144,rfl,rfl,f147,
      f146⟩
  rintro fr181 h190 ⟨hS191,f182,f183,f184,f185,f186,f187,f188,f189⟩
  simp only [b7,e8]
  simp only [zm,q7l,f182,qz,B0,reduceIte,a7]
  obtain ⟨c192,hv193,hS194⟩:=a1u (c:=c153) (os:=c161++(c165)) hv156 rfl hx149 jl (Partition.RI (x:=x148) hv162 hv166) (a1d (c1:=c161) (c2:=c165)
    (o6 (s7 (s7 hS191))))
  have hv195:=a1c hv193
  obtain ⟨s196,hX200,hk201⟩:=qk hF173
  refine ue (t:=v171) (fun fr' h'=>∃ c197,fr' 2 = .ref [lst qe v_0.Brokers,lst qd v_0.Parts,
    .int .i64 v_0.Next] 0∧fr' 4 = .ptr b9 0∧fr' 6 = .ptr b33 0∧fr' 9 = .int .i64 (i125:Int)∧fr' 10 = .ptr b151 ((i125:Int).toNat*5)∧fr' 41 = .int .i64
    (b6 v39.2.Parts:Int)∧fr' 42 = .int .i64 (i125:Int)∧SlN Partition.R 5 39 v44 s196 c197∧Sep h' (geL h.length) ([Blk1 b9 [.nil,.nil,
    .int .i64 0] 29]++([Blk1 b33 [v20,v44,.int .i64 v39.2.Next] 29]++(c197++(c111++([])))))) (fun Q202 hN203 hR204 hE205=>⟨fun hc206=>?_,fun hc206=>?_⟩) ?_
  ·rw [iteT hc206] at hX200
   simp only [q6f,ji,f187,qpf,qt,f185,z2,B0,reduceIte,a7]
   refine zc (v := .agg [v20,v44,.int .i64 v39.2.Next]) ((zw (l9 _ _ _ (f0 hS194))).trans rfl) ?_
   obtain ⟨c207,cs208,os209,hv210,hR211,hS212⟩:=a12 (a11 hv195 hb152 Partition.RO.len) hx149 jl Partition.RO.len hS194
   obtain ⟨v214,c215,v218,c219,hv216,hv220,rfl,rfl⟩:=hR211
   have hS213:=a13 hS212
   simp only [f187,jm,qt,yn,z7,z3,a8,a9,b4,q9,z2,B0,reduceIte,a7]
   refine zc (v:=v218) ((a2s (o:=1) hv210 rfl hx149 hS213 (nle rfl)).trans rfl) ?_
   obtain ⟨c222,hv223,hS224⟩:=a1u (c:=c207) (os:=c215++(c219)) hv210 rfl hx149 jl (Partition.RI (x:=x148) hv216 hv220) (a1d (c1:=c215) (c2:=c219)
     (f0 (f0 (f0 hS213))))
   have hv225:=a1c hv223
   obtain ⟨v226,hx227,hF228⟩:=qk hX200
   simp only [xx,B0,reduceIte,a7]
   refine qga rfl (ql (z4 (ql (a0g hv112 (i5 hS224) rfl (fun _=>rfl) (fun _=>rfl)) (ql (SlN.snap hv225 _ hS224 rfl Partition.RO)
     (ql qu zd)))) (ql (a0g hv220 (f0 hS213) rfl (fun _=>rfl) (fun _=>rfl)) zd)) (qde (fun b hb=>decide_eq_true hb)
     (Control.mk s110 s122 v39.2.Next) x148.InStep v226 hx227) ?_
   simp only [yn,qt,z7,z3,a8,a9,b4,q9,uy,B0,reduceIte,a7]
   refine qcp (n:=5) (us:=[.int .i64 v226]) (cs:=[v214,v218,.int .i64 x148.Leader,.int .i64 x148.Epoch,.int .i64 x148.Stamp]) (o:=2) (cs':=[v214,v218,
     .int .i64 v226,.int .i64 x148.Epoch,.int .i64 x148.Stamp]) rfl hv210 rfl hx149 hS213 hW rfl rfl (nle rfl) rfl (fun c231 h229 hv232 hS230=>?_)
   simp only [zm,qn,B0,reduceIte,a7]
   obtain ⟨c233,hv234,hS235⟩:=SlG.cls (e':=(Partition.mk x148.Homes x148.InStep v226 x148.Epoch x148.Stamp)) (c:=c231) (os:=c215++(c219)) hv232 rfl hx149 jl
     (Partition.RI (x:=(Partition.mk x148.Homes x148.InStep v226 x148.Epoch x148.Stamp)) hv216 hv220) (a1d (c1:=c215) (c2:=c219) (f0 (f0 (f0 hS230))))
   have hx236:=k7 (x':=(Partition.mk x148.Homes x148.InStep v226 x148.Epoch x148.Stamp)) hx149
   have hv237:=a1c hv234
   have e238:=qj hF228
   subst e238
   exact hN203 _ _ ⟨c233,f183,f184,f185,f186,f187,f188,f189,hv237,(i5 (i5 (f8 (i5 hS235))))⟩
  ·rw [iteF hc206] at hX200
   simp only [zf,qn,B0,reduceIte,a7]
   have e239:=qj hX200
   subst e239
   exact hN203 _ _ ⟨c192,f183,f184,f185,f186,f187,f188,f189,hv195,(i5 (i5 (f8 (i5 hS194))))⟩
  rintro fr240 h241 ⟨c197,f243,f244,f245,f246,f247,f248,f249,hv198,hS242⟩
  unfold qdu at hk201
  simp only [qr8,qh,ji,f246,jm,qt,f243,z3,a8,a9,b4,qs,z2,B0,reduceIte,a7]
  refine zc (v:=lst qd v_0.Parts) rfl ?_
  simp only [qi8,qt,z1,wt,qcg,jm,B0,reduceIte,a7]
  obtain ⟨v253,hx254,hF255⟩:=qk hk201
  refine qf8 12 (fun fr' h'=>Sep h' (geL h.length) ([Blk1 b9 [.nil,.nil,.int .i64 0] 29]++([Blk1 b33 [v20,v44,
    .int .i64 v39.2.Next] 29]++(c197++(c111++([])))))∧fr' 91 = .bool v253∧fr' 2 = .ref [lst qe v_0.Brokers,lst qd v_0.Parts,
    .int .i64 v_0.Next] 0∧fr' 4 = .ptr b9 0∧fr' 6 = .ptr b33 0∧fr' 10 = .ptr b151 ((i125:Int).toNat*5)∧fr' 41 = .int .i64
    (b6 v39.2.Parts:Int)∧fr' 42 = .int .i64 (i125:Int)) rfl (fun Q250 hN251=>?_) ?_
  ·simp only [d7,e9]
   simp only [zo (g:=79),B0,reduceIte,a7]
   refine yu (t:=(decide ((b6 v_0.Parts:Int)≤(i125:Int)))) (fun hg252=>?_) (fun hg252=>?_)
   ·rw [iteT hg252] at hx254
    simp only [hg252,zo (g:=79),wj,yd,qt,zh,zm,qn,B0,reduceIte,a7]
    have e256:=qj hx254
    exact hN251 _ _ ⟨(i5 (i5 (i5 (i5 hS242)))),by rw [←e256]; simp only [B0,reduceIte,a7],f243,f244,f245,f247,f248,f249⟩
   ·rw [iteF hg252] at hx254
    obtain ⟨x257,hx258,hF259⟩:=qk hx254
    obtain ⟨c260,cs261,os262,hv263,hR264,hS265⟩:=a12 (a11 hv198 hb152 Partition.RO.len) hx258 jl Partition.RO.len (f0 hS242)
    obtain ⟨v267,c268,v271,c272,hv269,hv273,rfl,rfl⟩:=hR264
    have hS266:=a13 hS265
    simp only [hg252,zo (g:=79),zz,f247,jm,qt,yn,z7,z3,a8,a9,b4,q9,z2,B0,
      reduceIte,a7]
    refine zc (v := .int .i64 x257.Leader) ((a2s (o:=2) hv263 rfl hx258 hS266 (nle rfl)).trans rfl) ?_
    simp only [hg252,zo (g:=79),zz,f243,z3,qt,a8,a9,b4,qs,z2,B0,reduceIte,a7]
    refine zc (v:=lst qd v_0.Parts) rfl ?_
    obtain ⟨x275,hx276,hF277⟩:=qk hF259
    simp only [hg252,zo (g:=79),zz,f246,jm,qt,wn,B0,reduceIte,a7]
    refine zc (v := .ref (qd x275) 0) (uw hx276 rfl) ?_
    simp only [hg252,zo (g:=79),zz,z3,qt,a8,a9,b4,qs,z2,B0,reduceIte,a7]
    refine zc (v := .int .i64 x275.Leader) rfl ?_
    simp only [hg252,zo (g:=79),zz,wt,qt,wm,yd,zi,zm,qn,B0,reduceIte,a7]
    have e278:=qj hF277
    exact hN251 _ _ ⟨(i5 (i5 (i5 (i5 hS242)))),by rw [←e278]; simp only [B0,reduceIte,a7],f243,f244,f245,f247,f248,f249⟩
  rintro fr279 h287 ⟨hS288,f280,f281,f282,f283,f284,f285,f286⟩
  simp only [b7,e8]
  simp only [zm,qxg,f280,qz,B0,reduceIte,a7]
  obtain ⟨s289,hX293,hk294⟩:=qk hF255
  refine ue (t:=v253) (fun fr' h'=>∃ c290,fr' 2 = .ref [lst qe v_0.Brokers,lst qd v_0.Parts,
    .int .i64 v_0.Next] 0∧fr' 4 = .ptr b9 0∧fr' 6 = .ptr b33 0∧fr' 10 = .ptr b151 ((i125:Int).toNat*5)∧fr' 41 = .int .i64
    (b6 v39.2.Parts:Int)∧fr' 42 = .int .i64 (i125:Int)∧SlN Partition.R 5 39 v44 s289 c290∧Sep h' (geL h.length) ([Blk1 b9 [.nil,.nil,
    .int .i64 0] 29]++([Blk1 b33 [v20,v44,.int .i64 v39.2.Next] 29]++(c290++(c111++([])))))) (fun Q295 hN296 hR297 hE298=>⟨fun hc299=>?_,fun hc299=>?_⟩) ?_
  ·rw [iteT hc299] at hX293
   obtain ⟨x300,hx301,hF302⟩:=qk hX293
   obtain ⟨c303,cs304,os305,hv306,hR307,hS308⟩:=a12 (a11 hv198 hb152 Partition.RO.len) hx301 jl Partition.RO.len (f0 hS288)
   obtain ⟨v310,c311,v314,c315,hv312,hv316,rfl,rfl⟩:=hR307
   have hS309:=a13 hS308
   simp only [qtf,qh,qf,f284,qg,kx,qb,z7,qp,a8,a9,b4,q9,qm,B0,reduceIte,
     a7]
   refine qi (v := .int .i64 x300.Stamp) ((a2s (o:=4) hv306 rfl hx301 hS309 (nle rfl)).trans rfl) ?_
   simp only [qv,qb,qal,kx,z7,qp,a8,a9,b4,q9,zk,B0,reduceIte,a7]
   refine qdk (n:=5) (us:=[.int .i64 (d8 .i64 (x300.Stamp+1))]) (cs:=[v310,v314,.int .i64 x300.Leader,.int .i64 x300.Epoch,
     .int .i64 x300.Stamp]) (o:=4) (cs':=[v310,v314,.int .i64 x300.Leader,.int .i64 x300.Epoch,
     .int .i64 (d8 .i64 (x300.Stamp+1))]) rfl hv306 rfl hx301 hS309 hW rfl rfl (nle rfl) rfl (fun c320 h318 hv321 hS319=>?_)
   simp only [qa,qrq,qh,qf,f284,qg,kx,qb,z7,qp,a8,a9,b4,q9,qm,B0,
     reduceIte,a7]
   refine qi (v := .int .i64 x300.Leader) ((a2s (o:=2) hv321 rfl hx301 hS319 (nle rfl)).trans rfl) ?_
   simp only [qv,qb,wm,qa,qr3,qz,B0,reduceIte,a7]
   refine qx (t:=(decide (x300.Leader≠(-1)))) (fun hc322=>?_) (fun hc322=>?_)
   ·rw [iteT hc322] at hF302
    simp only [q65,qf,f284,qg,kx,qb,z7,qp,a8,a9,b4,q9,qm,B0,reduceIte,a7]
    refine qi (v := .int .i64 x300.Epoch) ((a2s (o:=3) hv321 rfl hx301 hS319 (nle rfl)).trans rfl) ?_
    simp only [qv,qb,qal,kx,z7,qp,a8,a9,b4,q9,zk,B0,reduceIte,a7]
    refine qdk (n:=5) (us:=[.int .i64 (d8 .i64 (x300.Epoch+1))]) (cs:=[v310,v314,.int .i64 x300.Leader,.int .i64 x300.Epoch,
      .int .i64 (d8 .i64 (x300.Stamp+1))]) (o:=3) (cs':=[v310,v314,.int .i64 x300.Leader,.int .i64 (d8 .i64 (x300.Epoch+1)),
      .int .i64 (d8 .i64 (x300.Stamp+1))]) rfl hv321 rfl hx301 hS319 hW rfl rfl (nle rfl) rfl (fun c325 h323 hv326 hS324=>?_)
    simp only [qa,qn,B0,reduceIte,a7]
    obtain ⟨c327,hv328,hS329⟩:=SlG.cls (e':=(Partition.mk x300.Homes x300.InStep x300.Leader (d8 .i64 (x300.Epoch+1)) (d8 .i64 (x300.Stamp+1))))
      (c:=c325) (os:=c311++(c315)) hv326 rfl hx301 jl (Partition.RI (x:=(Partition.mk x300.Homes x300.InStep x300.Leader (d8 .i64 (x300.Epoch+1))
      (d8 .i64 (x300.Stamp+1)))) hv312 hv316) (a1d (c1:=c311) (c2:=c315) (f0 (f0 (f0 hS324))))
    have hx330:=k7 (x':=(Partition.mk x300.Homes x300.InStep x300.Leader (d8 .i64 (x300.Epoch+1)) (d8 .i64 (x300.Stamp+1)))) hx301
    have hv331:=a1c hv328
    have e332:=qj hF302
    subst e332
    exact hN296 _ _ ⟨c327,f281,f282,f283,f284,f285,f286,hv331,(i5 (i5 (f8 (i5 hS329))))⟩
   rw [iteF hc322] at hF302
   simp only [zf,qn,B0,reduceIte,a7]
   obtain ⟨c333,hv334,hS335⟩:=SlG.cls (e':=(Partition.mk x300.Homes x300.InStep x300.Leader x300.Epoch (d8 .i64 (x300.Stamp+1)))) (c:=c320) (os:=c311 ++
     (c315)) hv321 rfl hx301 jl (Partition.RI (x:=(Partition.mk x300.Homes x300.InStep x300.Leader x300.Epoch (d8 .i64 (x300.Stamp+1)))) hv312 hv316)
     (a1d (c1:=c311) (c2:=c315) (f0 (f0 (f0 hS319))))
   have hx336:=k7 (x':=(Partition.mk x300.Homes x300.InStep x300.Leader x300.Epoch (d8 .i64 (x300.Stamp+1)))) hx301
   have hv337:=a1c hv334
   have e338:=qj hF302
   subst e338
   exact hN296 _ _ ⟨c333,f281,f282,f283,f284,f285,f286,hv337,(i5 (i5 (f8 (i5 hS335))))⟩
  ·rw [iteF hc299] at hX293
   simp only [zf,qn,B0,reduceIte,a7]
   have e339:=qj hX293
   subst e339
   exact hN296 _ _ ⟨c197,f281,f282,f283,f284,f285,f286,hv198,(i5 (i5 (i5 (i5 hS288))))⟩
  rintro fr340 h341 ⟨c290,f343,f344,f345,f346,f347,f348,hv291,hS342⟩
  unfold qca at hk294
  obtain ⟨x349,hx350,hF351⟩:=qk hk294
  obtain ⟨c352,cs353,os354,hv355,hR356,hS357⟩:=a12 (a11 hv291 hb152 Partition.RO.len) hx350 jl Partition.RO.len (f0 hS342)
  obtain ⟨v359,c360,v363,c364,hv361,hv365,rfl,rfl⟩:=hR356
  have hS358:=a13 hS357
  simp only [qr6,qh,qf,f346,qg,kx,qb,z7,qp,a8,a9,b4,q9,qm,B0,reduceIte,
    a7]
  refine qi (v := .int .i64 x349.Stamp) ((a2s (o:=4) hv355 rfl hx350 hS358 (nle rfl)).trans rfl) ?_
  simp only [qv,qb,qc7,qg,B0,reduceIte,a7]
  refine zr 6 (fun fr' h'=>Sep h' (geL h.length) ([Blk1 b9 [.nil,.nil,.int .i64 0] 29]++([Blk1 b33 [v20,v44,
    .int .i64 v39.2.Next] 29]++(c111++(c352++(c360++(c364++([])))))))∧fr' 122 = .bool ((decide ((1000:Int)<x349.Stamp))||(decide
    ((1000:Int)<x349.Epoch)))∧fr' 2 = .ref [lst qe v_0.Brokers,lst qd v_0.Parts,
    .int .i64 v_0.Next] 0∧fr' 4 = .ptr b9 0∧fr' 6 = .ptr b33 0∧fr' 41 = .int .i64 (b6 v39.2.Parts:Int)∧fr' 42 = .int .i64 (i125:Int))
    (fun Q367 hN368=>?_) ?_
  ·simp only [d7,e9]
   simp only [qc (g:=116),B0,reduceIte,a7]
   refine qy (t:=(decide ((1000:Int)<x349.Stamp))) (fun hg369=>?_) (fun hg369=>?_)
   ·simp only [hg369,qc (g:=116),zv,qr,qb,zh,qa,qn,B0,reduceIte,a7]
    exact hN368 _ _ ⟨(s7 (s7 (s7 (f0 (f0 (f0 hS358)))))),by rw [orT hg369]; simp only [B0,reduceIte,a7],f343,f344,f345,f347,f348⟩
   ·simp only [hg369,qc (g:=116),qq,f346,qg,kx,qb,z7,qp,a8,a9,b4,q9,qm,B0,
     reduceIte,a7]
    refine qi (v := .int .i64 x349.Epoch) ((a2s (o:=3) hv355 rfl hx350 hS358 (nle rfl)).trans rfl) ?_
    simp only [hg369,qc (g:=116),qq,qv,qb,qc7,qr,zi,qa,qn,B0,reduceIte,a7]
    exact hN368 _ _ ⟨(s7 (s7 (s7 (f0 (f0 (f0 hS358)))))),by rw [orF hg369]; simp only [B0,reduceIte,a7],f343,f344,f345,f347,f348⟩
  rintro fr370 h377 ⟨hS378,f371,f372,f373,f374,f375,f376⟩
  simp only [b7,e8]
  simp only [qa,qup,f371,qz,B0,reduceIte,a7]
  refine qx (t:=((decide ((1000:Int)<x349.Stamp))||(decide ((1000:Int)<x349.Epoch)))) (fun hc379=>?_) (fun hc379=>?_)
  ·rw [iteT hc379] at hF351
   simp only [qw1,qh,qf,f372,qm,B0,reduceIte,a7]
   refine qi (v := .agg [lst qe v_0.Brokers,lst qd v_0.Parts,.int .i64 v_0.Next]) rfl ?_
   obtain ⟨v380,hx381,hF382⟩:=qk hF351
   simp only [za,B0,reduceIte,a7]
   refine wq rfl hS378 (ql (z4 (ql zn (ql zn (ql qu zd)))) zd) (qdi
     (fun b hb=>decide_eq_true hb) v_0 v380 hx381) ?_
   rintro _ h391 ⟨v383,c384,v387,c388,rfl,hv385,hv389,hS392⟩
   refine ⟨_,qeu (qo (a0k hv385) (qo (a01 hv389) (qo rfl zl))),hS392,
     (jg (a1n hv385 (fun _=>rfl)) (jg (a2d hv389 Partition.RO) ye)),fun h393 hS394=>?_⟩
   have hS395:Sep h393 (geL h.length) (c384++(c388++([Blk1 b9 [.nil,.nil,.int .i64 0] 29]++([Blk1 b33 [v20,v44,
     .int .i64 v39.2.Next] 29]++(c111++(c352++(c360++(c364++([]))))))))):=by simpa only [f6,o8] using hS394
   simp only [f373,zk,B0,reduceIte,a7]
   refine zb (us:=[v383,v387,.int .i64 v380.Next]) rfl (cs':=[v383,v387,
     .int .i64 v380.Next]) (f0 hS395) hW rfl (qo (n7 hv385) (qo (t7 hv389) (qo rfl zl))) (nle rfl) rfl (fun h396 hS397=>?_)
   simp only [qg,qa,q8,B0,reduceIte,a7]
   have e398:=qj hF382
   subst e398
   have ho399:=hr132 _ rfl
   have hk400:=hk130
   rw [ho399] at hk400
   dsimp only [jnO] at hk400
   apply hR136
   obtain ⟨c401,hv402,hS403⟩:=a1u (c:=c352) (os:=c360++(c364)) hv355 rfl hx350 jl (Partition.RI (x:=x349) hv361 hv365) (a1d (c1:=c360) (c2:=c364)
     (Sep.m7 (Sep.m7 (Sep.m7 hS397))))
   have hv404:=a1c hv402
   have he:=qj hk400
   subst he
   refine j8 (ql (kn (bb:=b9) (oo:=0) (v := .agg [v383,v387,
     .int .i64 v380.Next]) (f373) ((zw (l9 _ _ _ (f8 hS403))).trans rfl)) (ql (yl (v := .int .i64 4) (rfl)) zd)) ?_
   exact ⟨v383,c384,v387,c388,by first | trivial | rfl,hv385,hv389,(f8 (f8 (l6 (f0 (l6 (f0 (l6 ((l6 (hS403))))))))))⟩
  rw [iteF hc379] at hF351
  simp only [zf,qn,B0,reduceIte,a7]
  obtain ⟨c405,hv406,hS407⟩:=a1u (c:=c352) (os:=c360++(c364)) hv355 rfl hx350 jl (Partition.RI (x:=x349) hv361 hv365) (a1d (c1:=c360) (c2:=c364)
    (s7 (s7 (s7 hS378))))
  have hv408:=a1c hv406
  have e409:=qj hF351
  exact hN134 _ _ _ e409.symm ⟨c405,f372,f373,f374,hv408,(i5 (i5 (i5 hS407)))⟩ (f376) (f375)
 rintro s413 fr416 h417 rfl ⟨c414,f419,f420,f421,hv415,hS418⟩
 dsimp only [jnO] at hk130
 unfold qgk at hk130
 simp only [qh,qf,f421,qm,B0,reduceIte,a7]
 refine qi (v := .agg [v20,v44,.int .i64 v39.2.Next]) ((zw (l9 _ _ _ (f8 hS418))).trans rfl) ?_
 simp only [f420,zk,B0,reduceIte,a7]
 refine zb (us:=[v20,v44,.int .i64 v39.2.Next]) rfl (cs':=[v20,v44,
   .int .i64 v39.2.Next]) hS418 hW rfl (qo (n7 hv112) (qo (t7 hv415) (qo rfl zl))) (nle rfl) rfl (fun h422 hS423=>?_)
 simp only [qg,qa,q8,B0,reduceIte,a7]
 have he:=qj hk130
 subst he
 refine j8 (ql (kn (bb:=b9) (oo:=0) (v := .agg [v20,v44,
   .int .i64 v39.2.Next]) (f420) ((zw (l9 _ _ _ hS423)).trans rfl)) (ql (yl (v := .int .i64 0) (rfl)) zd)) ?_
 exact ⟨v20,c111,v44,c414,by first | trivial | rfl,hv112,hv415,(f8 (f8 (l6 ((l6 (hS423))))))⟩
theorem qg8 {W:Nat→Bool}{h:Heap} (hW:∀ b,
  (geL h.length) b→W b=true) (c_0:Control) (x_1:Command) (r:Control × Int × Bool)
  (hF:ut c_0 x_1=some r) : Ret E W 18 [.agg [lst qe c_0.Brokers,lst qd c_0.Parts,.int .i64 c_0.Next],.agg [.int .i64 x_1.Kind,
  .int .i64 x_1.Broker,.int .i64 x_1.Epoch,.int .i64 x_1.Part,.int .i64 x_1.Stamp,lst cI x_1.InStep]] h (fun v h'=>∃ rv0_0 rc0_0 rv0_1 rc0_1,v = .tup [.agg [rv0_0,rv0_1,
  .int .i64 r.1.Next],.int .i64 r.2.1,
  .bool r.2.2]∧SlF qe 3 86 rv0_0 r.1.Brokers rc0_0∧SlN Partition.R 5 39 rv0_1 r.1.Parts rc0_1∧Sep h' (geL h.length) (rc0_0++(rc0_1++([])))):=by
 refine Ret.of (fn:=x18) rfl (Run.of ?_)
 unfold ut at hF
 have zf0:zj [.agg [lst qe c_0.Brokers,lst qd c_0.Parts,.int .i64 c_0.Next],.agg [.int .i64 x_1.Kind,.int .i64 x_1.Broker,.int .i64 x_1.Epoch,
   .int .i64 x_1.Part,.int .i64 x_1.Stamp,lst cI x_1.InStep]] 0 = .agg [lst qe c_0.Brokers,lst qd c_0.Parts,.int .i64 c_0.Next]:=rfl
 have zf1:zj [.agg [lst qe c_0.Brokers,lst qd c_0.Parts,.int .i64 c_0.Next],.agg [.int .i64 x_1.Kind,.int .i64 x_1.Broker,.int .i64 x_1.Epoch,
   .int .i64 x_1.Part,.int .i64 x_1.Stamp,lst cI x_1.InStep]] 1 = .agg [.int .i64 x_1.Kind,.int .i64 x_1.Broker,.int .i64 x_1.Epoch,.int .i64 x_1.Part,
   .int .i64 x_1.Stamp,lst cI x_1.InStep]:=rfl
 generalize zj [.agg [lst qe c_0.Brokers,lst qd c_0.Parts,.int .i64 c_0.Next],.agg [.int .i64 x_1.Kind,.int .i64 x_1.Broker,.int .i64 x_1.Epoch,
   .int .i64 x_1.Part,.int .i64 x_1.Stamp,lst cI x_1.InStep]]=fr0 at zf0 zf1 ⊢
 have hS:Sep h (geL h.length) []:=a0t h
 simp only [x18,qh,qf,jp,zf0,B0,reduceIte,a7]
 refine jc (cs:=[lst qe c_0.Brokers,lst qd c_0.Parts,.int .i64 c_0.Next]) hS rfl rfl rfl (fun b1 h2 hS3=>?_)
 simp only [jp,zf1,B0,reduceIte,a7]
 refine jc (cs:=[.int .i64 x_1.Kind,.int .i64 x_1.Broker,.int .i64 x_1.Epoch,.int .i64 x_1.Part,.int .i64 x_1.Stamp,
   lst cI x_1.InStep]) hS3 rfl rfl rfl (fun b5 h6 hS7=>?_)
 simp only [z5,B0,reduceIte,a7]
 refine zt hS7 (fun b9 h10 hS11=>?_)
 simp only [qg,qa,B0,reduceIte,a7]
 refine zq (f0 hS11) hW (by simp only [B0,reduceIte,a7]) (fun h13 hS14=>?_)
 refine zq (f8 hS14) hW (by simp only [B0,reduceIte,a7]) (fun h15 hS16=>?_)
 simp only [zp,q12,qh,qf,qm,B0,reduceIte,a7]
 refine qi (v := .agg [lst qe c_0.Brokers,lst qd c_0.Parts,.int .i64 c_0.Next]) rfl ?_
 obtain ⟨v17,hx18,hF19⟩:=qk hF
 simp only [za,B0,reduceIte,a7]
 refine ja rfl (ql (z4 (ql zn (ql zn (ql qu zd)))) zd) (qa9 (fun b hb=>decide_eq_true hb) c_0 v17 hx18) ?_
 simp only [je,qb,jt,qg,B0,reduceIte,a7]
 obtain ⟨v23,hx24,hF25⟩:=qk hF19
 refine zr 7 (fun fr' h'=>Sep h' (geL h.length) ([Blk1 b9 [.nil,.nil,.int .i64 0] 29]++([]))∧fr' 19 = .bool v23∧fr' 2 = .ref [lst qe c_0.Brokers,
   lst qd c_0.Parts,.int .i64 c_0.Next] 0∧fr' 3 = .ref [.int .i64 x_1.Kind,.int .i64 x_1.Broker,.int .i64 x_1.Epoch,.int .i64 x_1.Part,.int .i64 x_1.Stamp,
   lst cI x_1.InStep] 0∧fr' 4 = .ptr b9 0) (fun Q20 hN21=>?_) ?_
 ·simp only [d7,e9]
  simp only [qc (g:=12),B0,reduceIte,a7]
  refine qy (t:=(!v17)) (fun hg22=>?_) (fun hg22=>?_)
  ·rw [iteT hg22] at hx24
   simp only [hg22,qc (g:=12),zv,qr,qb,zh,qa,qn,B0,reduceIte,a7]
   have e26:=qj hx24
   exact hN21 _ _ ⟨hS16,by rw [←e26]; simp only [B0,reduceIte,a7],rfl,rfl,rfl⟩
  ·rw [iteF hg22] at hx24
   simp only [hg22,qc (g:=12),qq,qm,B0,reduceIte,a7]
   refine qi (v := .agg [.int .i64 x_1.Kind,.int .i64 x_1.Broker,.int .i64 x_1.Epoch,.int .i64 x_1.Part,.int .i64 x_1.Stamp,lst cI x_1.InStep]) rfl ?_
   simp only [hg22,qc (g:=12),qq,qp,qb,a8,a9,b4,qs,qm,B0,reduceIte,a7]
   refine qi (v:=lst qe c_0.Brokers) rfl ?_
   obtain ⟨v27,hx28,hF29⟩:=qk hx24
   simp only [hg22,qc (g:=12),qq,zx,qb,z1,za,B0,reduceIte,a7]
   refine ja rfl (ql (z4 (ql qu (ql qu (ql qu (ql qu (ql qu (ql zn zd))))))) (ql qu zd))
     (qj5 (fun b hb=>decide_eq_true hb) x_1 (b6 c_0.Brokers:Int) v27 hx28) ?_
   simp only [hg22,qc (g:=12),qq,je,qb,jt,qr,zi,qa,qn,B0,reduceIte,a7]
   have e30:=qj hF29
   exact hN21 _ _ ⟨hS16,by rw [←e30]; simp only [B0,reduceIte,a7],rfl,rfl,rfl⟩
 rintro fr31 h36 ⟨hS37,f32,f33,f34,f35⟩
 simp only [b7,e8]
 simp only [qa,qzp,f32,qz,B0,reduceIte,a7]
 refine qx (t:=v23) (fun hc38=>?_) (fun hc38=>?_)
 ·rw [iteT hc38] at hF25
  simp only [q2x,qh,qf,run_build,evp,B0,reduceIte,a7]
  refine qi (v := .agg [.nil,.nil,.int .i64 0]) rfl ?_
  simp only [f35,zk,B0,reduceIte,a7]
  refine zb (us:=[.nil,.nil,.int .i64 0]) rfl (cs':=[.nil,.nil,.int .i64 0]) hS37 hW rfl rfl (nle rfl) rfl (fun h39 hS40=>?_)
  simp only [qg,qa,q8,B0,reduceIte,a7]
  have he:=qj hF25
  subst he
  refine j8 (ql (kn (bb:=b9) (oo:=0) (v := .agg [.nil,.nil,
    .int .i64 0]) (f35) ((zw (l9 _ _ _ hS40)).trans rfl)) (ql (yl (v := .int .i64 0) (rfl)) (ql (yl (v := .bool false) (rfl)) zd))) ?_
  exact ⟨.nil,[],.nil,[],by first | trivial | rfl,SlF.nil,SlN.nil,((l6 (hS40)) : Sep _ (geL h.length) ([]))⟩
 rw [iteF hc38] at hF25
 simp only [zf,q1c,qh,qf,f33,qm,B0,reduceIte,a7]
 refine qi (v := .agg [lst qe c_0.Brokers,lst qd c_0.Parts,.int .i64 c_0.Next]) rfl ?_
 simp only [f34,qm,B0,reduceIte,a7]
 refine qi (v := .agg [.int .i64 x_1.Kind,.int .i64 x_1.Broker,.int .i64 x_1.Epoch,.int .i64 x_1.Part,.int .i64 x_1.Stamp,lst cI x_1.InStep]) rfl ?_
 obtain ⟨v41,hx42,hF43⟩:=qk hF25
 simp only [za,B0,reduceIte,a7]
 refine wq rfl hS37 (ql (z4 (ql zn (ql zn (ql qu zd)))) (ql (z4 (ql qu (ql qu (ql qu
   (ql qu (ql qu (ql zn zd))))))) zd)) (qj9 (fun b hb=>decide_eq_true hb) c_0 x_1 v41 hx42) ?_
 rintro _ h52 ⟨v44,c45,v48,c49,rfl,hv46,hv50,hS53⟩
 refine ⟨_,u6 (qo (uj (qo (a0k hv46) (qo (a01 hv50) (qo rfl zl)))) (qo rfl zl)),hS53,
   (jg (a1n hv46 (fun _=>rfl)) (jg (a2d hv50 Partition.RO) ye)),fun h54 hS55=>?_⟩
 have hS56:Sep h54 (geL h.length) (c45++(c49++([Blk1 b9 [.nil,.nil,.int .i64 0] 29]++([])))):=by simpa only [f6,o8] using hS55
 simp only [qg,yi,qb,y6,y8,z5,B0,reduceIte,a7]
 refine zt hS56 (fun b57 h58 hS59=>?_)
 simp only [zk,B0,reduceIte,a7]
 refine zb (us:=[v44,v48,.int .i64 v41.1.Next]) rfl (cs':=[v44,v48,
   .int .i64 v41.1.Next]) hS59 hW rfl (qo (n7 hv46) (qo (t7 hv50) (qo rfl zl))) (nle rfl) rfl (fun h61 hS62=>?_)
 simp only [qg,qa,B0,reduceIte,a7]
 refine zq hS62 hW (by simp only [B0,reduceIte,a7]) (fun h63 hS64=>?_)
 simp only [zp,q37,qh,qf,qm,B0,reduceIte,a7]
 refine qi (v := .agg [v44,v48,.int .i64 v41.1.Next]) rfl ?_
 simp only [qg,f35,zk,B0,reduceIte,a7]
 refine zb (us:=[v44,v48,.int .i64 v41.1.Next]) rfl (cs':=[v44,v48,
   .int .i64 v41.1.Next]) (f0 hS64) hW rfl (qo (n7 hv46) (qo (t7 hv50) (qo rfl zl))) (nle rfl) rfl (fun h65 hS66=>?_)
 simp only [qg,qa,q8,B0,reduceIte,a7]
 have he:=qj hF43
 subst he
 refine j8 (ql (kn (bb:=b9) (oo:=0) (v := .agg [v44,v48,
   .int .i64 v41.1.Next]) (f35) ((zw (l9 _ _ _ hS66)).trans rfl)) (ql (yl (v := .int .i64 v41.2) (rfl)) (ql (yl (v := .bool true) (rfl)) zd))) ?_
 exact ⟨v44,c45,v48,c49,by first | trivial | rfl,hv46,hv50,(f8 (f8 (l6 (hS66))))⟩
theorem qi2 {W:Nat→Bool}{h:Heap} (hW:∀ b,
  (geL h.length) b→W b=true) (k:Nat) (code_0:List Int) (r:Control × Int) (hF:qba k code_0=some r) : Ret E W 21 [lst cU8 code_0] h
  (fun v h'=>∃ rv0_0 rc0_0 rv0_1 rc0_1,v = .tup [.agg [rv0_0,rv0_1,.int .i64 r.1.Next],
  .int .i64 r.2]∧SlF qe 3 86 rv0_0 r.1.Brokers rc0_0∧SlN Partition.R 5 39 rv0_1 r.1.Parts rc0_1∧Sep h' (geL h.length) (rc0_0++(rc0_1++([])))):=by
 refine Ret.of (fn:=x21) rfl (Run.of ?_)
 unfold qba at hF
 have zf0:zj [lst cU8 code_0] 0=lst cU8 code_0:=rfl
 generalize zj [lst cU8 code_0]=fr0 at zf0 ⊢
 have hS:Sep h (geL h.length) []:=a0t h
 simp only [x21,qh,qf,z5,B0,reduceIte,a7]
 refine zt hS (fun b1 h2 hS3=>?_)
 simp only [qg,qa,q2v,qh,qf,zf0,run_build,evp,B0,reduceIte,a7]
 refine qi (v := .agg [lst cU8 code_0,.int .i64 0,.int .u64 0]) rfl ?_
 simp only [jp,B0,reduceIte,a7]
 refine jc (cs:=[lst cU8 code_0,.int .i64 0,.int .u64 0]) hS3 rfl rfl rfl (fun b5 h6 hS7=>?_)
 obtain ⟨v9,hx10,hF11⟩:=qk hF
 simp only [qg,qa,q2l,qh,qf,za,B0,reduceIte,a7]
 refine kp rfl (qfd hW k b5 (L1Cur.mk code_0 0 0) v9 hx10 hS7) ?_
 rintro _ h20 ⟨v12,c13,v16,c17,rfl,hv14,hv18,hS21⟩
 simp only [z5,B0,reduceIte,a7]
 refine zt hS21 (fun b22 h23 hS24=>?_)
 simp only [zk,B0,reduceIte,a7]
 refine zb (us:=[v12,v16,.int .i64 v9.1.Next]) rfl (cs':=[v12,v16,
   .int .i64 v9.1.Next]) hS24 hW rfl (qo (n7 hv14) (qo (t7 hv18) (qo rfl zl))) (nle rfl) rfl (fun h26 hS27=>?_)
 simp only [qa,B0,reduceIte,a7]
 refine zq hS27 hW (by simp only [B0,reduceIte,a7]) (fun h28 hS29=>?_)
 simp only [zp,q14,qh,ji,qbc,qci,B0,reduceIte,a7]
 refine zc (v := .agg [v12,v16,.int .i64 v9.1.Next]) rfl ?_
 simp only [jm,qt,z3,a8,a9,b4,qs,z2,B0,reduceIte,a7]
 refine zc (v:=v12) rfl ?_
 obtain ⟨v30,hx31,hF32⟩:=qk hF11
 simp only [qi8,qt,SlF.plen hv14,wt,qal,qa1,B0,reduceIte,a7]
 refine qk3 rfl (ms:=[b5]) rfl qjk hW (f0 hS29) rfl (Nat.le_refl _) (fun b hb=>((l6 (f0 hS29)).ran b hb).2) (fun hWq hSq=>kd hWq b5 v9.2
   (d8 .i64 ((b6 v9.1.Brokers:Int)+2)) v30 hx31 hSq) ?_
 rintro _ h33 ⟨rfl,hS34⟩ hback
 replace hS34:=hback _ hS34
 simp only [q9b,qt,qe1,uy,B0,reduceIte,a7]
 refine qay (us:=[v12,v16,.int .i64 v9.1.Next]) rfl (cs':=[v12,v16,
   .int .i64 v9.1.Next]) (i5 hS34) hW rfl (qo (n7 hv14) (qo (t7 hv18) (qo rfl zl))) (nle rfl) rfl (fun h35 hS36=>?_)
 simp only [jm,qt,zm,q8,B0,reduceIte,a7]
 have he:=qj hF32
 subst he
 refine j8 (ql (kn (bb:=b1) (oo:=0) (v := .agg [v12,v16,
   .int .i64 v9.1.Next]) (rfl) ((zw (l9 _ _ _ hS36)).trans rfl)) (ql (yl (v := .int .i64 (d8 .i64 (v30.1 - 1))) (rfl)) zd)) ?_
 exact ⟨v12,c13,v16,c17,by first | trivial | rfl,hv14,hv18,(f8 (f8 (l6 ((l6 (hS36))))))⟩
theorem qlg {W:Nat→Bool}{h:Heap} (hW:∀ b,
  (geL h.length) b→W b=true) (c_0:Control) (broker_1:Int) (r:(List Int) × Bool)
  (hF:qcc c_0 broker_1=some r) : Ret E W 22 [.agg [lst qe c_0.Brokers,lst qd c_0.Parts,.int .i64 c_0.Next],
  .int .i64 broker_1] h (fun v h'=>cut h.length h' E.sz false 9 v=some (.tup [lst cI r.1,.bool r.2])):=by
 refine Ret.of (fn:=x22) rfl (Run.of ?_)
 unfold qcc at hF
 have zf0:zj [.agg [lst qe c_0.Brokers,lst qd c_0.Parts,.int .i64 c_0.Next],.int .i64 broker_1] 0 = .agg [lst qe c_0.Brokers,
   lst qd c_0.Parts,.int .i64 c_0.Next]:=rfl
 have zf1:zj [.agg [lst qe c_0.Brokers,lst qd c_0.Parts,.int .i64 c_0.Next],.int .i64 broker_1] 1 = .int .i64 broker_1:=rfl
 generalize zj [.agg [lst qe c_0.Brokers,lst qd c_0.Parts,.int .i64 c_0.Next],.int .i64 broker_1]=fr0 at zf0 zf1 ⊢
 have hS:Sep h (geL h.length) []:=a0t h
 simp only [x22,qh,qf,jp,zf0,B0,reduceIte,a7]
 refine jc (cs:=[lst qe c_0.Brokers,lst qd c_0.Parts,.int .i64 c_0.Next]) hS rfl rfl rfl (fun b1 h2 hS3=>?_)
 simp only [qg,qa,B0,reduceIte,a7]
 refine zq hS3 hW (by simp only [B0,reduceIte,a7]) (fun h5 hS6=>?_)
 simp only [zp,qvv,qh,qf,qm,B0,reduceIte,a7]
 refine qi (v := .agg [lst qe c_0.Brokers,lst qd c_0.Parts,.int .i64 c_0.Next]) rfl ?_
 obtain ⟨v7,hx8,hF9⟩:=qk hF
 simp only [za,B0,reduceIte,a7]
 refine ja rfl (ql (z4 (ql zn (ql zn (ql qu zd)))) zd) (xl (fun b hb=>decide_eq_true hb) c_0 v7 hx8) ?_
 simp only [je,qb,jt,qg,B0,reduceIte,a7]
 refine zr 3 (fun fr' h'=>Sep h' (geL h.length) ([])∧fr' 15 = .bool ((!v7)||(decide
   (broker_1<0)))∧fr' 1 = .int .i64 broker_1∧fr' 2 = .ref [lst qe c_0.Brokers,lst qd c_0.Parts,.int .i64 c_0.Next] 0) (fun Q10 hN11=>?_) ?_
 ·simp only [d7,e9]
  simp only [qc (g:=12),B0,reduceIte,a7]
  refine qy (t:=(!v7)) (fun hg12=>?_) (fun hg12=>?_)
  ·simp only [hg12,qc (g:=12),zv,qr,qb,zh,qa,qn,B0,reduceIte,a7]
   exact hN11 _ _ ⟨hS6,by rw [orT hg12]; simp only [B0,reduceIte,a7],zf1,rfl⟩
  ·simp only [hg12,qc (g:=12),qq,zf1,qg,qv,qb,qfi,qr,zi,qa,qn,B0,reduceIte,a7]
   exact hN11 _ _ ⟨hS6,by rw [orF hg12]; simp only [B0,reduceIte,a7],zf1,rfl⟩
 rintro fr13 h17 ⟨hS18,f14,f15,f16⟩
 simp only [b7,e8]
 simp only [f14,qg,B0,reduceIte,a7]
 refine zr 6 (fun fr' h'=>Sep h' (geL h.length) ([])∧fr' 22 = .bool (((!v7)||(decide (broker_1<0)))||(decide
   ((b6 c_0.Brokers:Int)≤broker_1)))∧fr' 1 = .int .i64 broker_1∧fr' 2 = .ref [lst qe c_0.Brokers,lst qd c_0.Parts,
   .int .i64 c_0.Next] 0) (fun Q19 hN20=>?_) ?_
 ·simp only [d7,e9]
  simp only [qc (g:=16),B0,reduceIte,a7]
  refine qy (t:=((!v7)||(decide (broker_1<0)))) (fun hg21=>?_) (fun hg21=>?_)
  ·simp only [hg21,qc (g:=16),zv,qr,qb,zh,qa,qn,B0,reduceIte,a7]
   exact hN20 _ _ ⟨hS18,by rw [orT hg21]; simp only [B0,reduceIte,a7],f15,f16⟩
  ·simp only [hg21,qc (g:=16),qq,f15,qg,f16,qp,qb,a8,a9,b4,qs,qm,B0,reduceIte,
    a7]
   refine qi (v:=lst qe c_0.Brokers) rfl ?_
   simp only [hg21,qc (g:=16),qq,zx,qb,z1,qv,qcg,qr,zi,qa,qn,B0,reduceIte,a7]
   exact hN20 _ _ ⟨hS18,by rw [orF hg21]; simp only [B0,reduceIte,a7],f15,f16⟩
 rintro fr22 h26 ⟨hS27,f23,f24,f25⟩
 simp only [b7,e8]
 simp only [qa,q5u,f23,qz,B0,reduceIte,a7]
 refine qx (t:=(((!v7)||(decide (broker_1<0)))||(decide ((b6 c_0.Brokers:Int)≤broker_1)))) (fun hc28=>?_) (fun hc28=>?_)
 ·rw [iteT hc28] at hF9
  simp only [qh,qf,qg,qa,q8,B0,reduceIte,a7]
  have he:=qj hF9
  subst he
  simp only [ur,B0,reduceIte,a7]
  exact qcx (ql rfl (ql rfl zd))
 rw [iteF hc28] at hF9
 simp only [zf,q1z,qh,qf,qg,qa,q7b,f25,qp,qb,a8,a9,b4,qs,qm,B0,reduceIte,
   a7]
 refine qi (v:=lst qd c_0.Parts) rfl ?_
 simp only [zx,qb,z1,qg,qa,B0,reduceIte,a7]
 obtain ⟨oc41,hX43,hk44⟩:=jo hF9
 simp only [q01]
 refine ku (σ:=(List Int)) c_0.Parts (fun i39 x40 s88=>qe6 broker_1 i39 x40 s88) (fun s fr' h'=>∃ v36 c37,
   fr' 1 = .int .i64 broker_1∧fr' 6=v36∧fr' 24=lst qd c_0.Parts∧SlF cI 1 3 v36 s c37∧Sep h' (geL h.length) (c37++([]))) hX43 ⟨.nil,[],f24,rfl,
   rfl,SlF.nil,(hS27:Sep _ (geL h.length) ([]))⟩ (by simp only [B0,reduceIte,a7]) (by simp only [B0,reduceIte,
   a7]) (fun _ _ _ h=>h) rfl rfl (fun _ _ _ _ h=>h) (fun _ _ _ _ h=>h) (fun _ _ _ _ h=>h) (by decide) ?_ ?_
 ·rintro i39 x40 s34 fr53 h54 hx59 ⟨v36,c37,f56,f57,f58,hv38,hS55⟩ f60 f61 oc42 hF45 hr46 Q47 hN48 hB52 hK49 hR50 hE51
  unfold qe6 at hF45
  simp only [qz6,qh,qf,f60,qg,f58,jf,B0,reduceIte,a7]
  refine qi (v := .ref (qd x40) 0) (kt hx59 rfl) ?_
  simp only [qm,B0,reduceIte,a7]
  refine qi (v := .agg [lst cI x40.Homes,lst cI x40.InStep,.int .i64 x40.Leader,.int .i64 x40.Epoch,.int .i64 x40.Stamp]) rfl ?_
  simp only [z5,B0,reduceIte,a7]
  refine zt hS55 (fun b62 h63 hS64=>?_)
  simp only [qg,zk,B0,reduceIte,a7]
  refine zb (us:=[lst cI x40.Homes,lst cI x40.InStep,.int .i64 x40.Leader,.int .i64 x40.Epoch,.int .i64 x40.Stamp]) rfl (cs':=[lst cI x40.Homes,
    lst cI x40.InStep,.int .i64 x40.Leader,.int .i64 x40.Epoch,.int .i64 x40.Stamp]) hS64 hW rfl rfl (nle rfl) rfl (fun h66 hS67=>?_)
  simp only [qa,B0,reduceIte,a7]
  refine zq hS67 hW (by simp only [B0,reduceIte,a7]) (fun h68 hS69=>?_)
  simp only [zp,q3r,qh,qf,qp,qb,a8,a9,b4,qs,qm,B0,reduceIte,a7]
  refine qi (v := .int .i64 x40.Leader) rfl ?_
  simp only [f56,qg,qv,qb,z8,qa,q3q,qz,B0,reduceIte,a7]
  refine qx (t:=(decide (x40.Leader=broker_1))) (fun hc70=>?_) (fun hc70=>?_)
  ·rw [iteT hc70] at hF45
   simp only [qzk,qf,f57,qg,j0,evp,B0,reduceIte,a7]
   refine ju (n:=1) (f:=cI) [(i39:Int)] hS69 rfl rfl (fun v71 c72 h73 hv74 hS75=>?_)
   simp only [wz,B0,reduceIte,a7]
   obtain ⟨l77,hx78,hF79⟩:=qk hF45
   refine yx (f:=cI) hv38 (f8 hS75) hW (fun _=>rfl) (fun _=>rfl) (SlF.first hv74 hS75 (fun _=>rfl)) hx78 (fun v80 c81 h82 hv83 hS84=>?_)
   simp only [qg,qa,qn,B0,reduceIte,a7]
   have e86:=qj hF79
   exact hN48 _ _ _ e86.symm ⟨v80,c81,f56,rfl,f58,hv83,(l6 (f8 hS84))⟩ (f60) (f61)
  rw [iteF hc70] at hF45
  simp only [zf,qn,B0,reduceIte,a7]
  have e87:=qj hF45
  exact hN48 _ _ _ e87.symm ⟨v36,c37,f56,f57,f58,hv38,hS69⟩ (f60) (f61)
 rintro s89 fr94 h95 rfl ⟨v91,c92,f97,f98,f99,hv93,hS96⟩
 dsimp only [jnO] at hk44
 unfold qhf at hk44
 simp only [qh,qf,f98,qg,qa,q8,B0,reduceIte,a7]
 have he:=qj hk44
 subst he
 simp only [ur,B0,reduceIte,a7]
 exact qcx (ql (SlF.cut hv93 hS96 (fun _ hb=>hb) rfl (fun _=>rfl) (fun _=>rfl)) (ql rfl zd))
theorem qhs {W:Nat→Bool}{h:Heap} (hW:∀ b,
  (geL h.length) b→W b=true) (k:Nat) (code_0:List Int) (r:Control) (hF:qav k code_0=some r) : Ret E W 61 [lst cU8 code_0] h
  (fun v h'=>∃ rv0_0 rc0_0 rv0_1 rc0_1,v = .agg [rv0_0,rv0_1,
  .int .i64 r.Next]∧SlF qe 3 86 rv0_0 r.Brokers rc0_0∧SlN Partition.R 5 39 rv0_1 r.Parts rc0_1∧Sep h' (geL h.length) (rc0_0++(rc0_1++([])))):=by
 refine Ret.of (fn:=x61) rfl (Run.of ?_)
 unfold qav at hF
 have zf0:zj [lst cU8 code_0] 0=lst cU8 code_0:=rfl
 generalize zj [lst cU8 code_0]=fr0 at zf0 ⊢
 have hS:Sep h (geL h.length) []:=a0t h
 simp only [x61,qh,qf,z5,B0,reduceIte,a7]
 refine zt hS (fun b1 h2 hS3=>?_)
 simp only [qa,q6c,qh,qf,zf0,qg,run_build,evp,B0,reduceIte,a7]
 refine qi (v := .agg [lst cU8 code_0,.int .i64 0,.int .u64 0]) rfl ?_
 simp only [jp,B0,reduceIte,a7]
 refine jc (cs:=[lst cU8 code_0,.int .i64 0,.int .u64 0]) hS3 rfl rfl rfl (fun b5 h6 hS7=>?_)
 obtain ⟨v9,hx10,hF11⟩:=qk hF
 simp only [qg,qa,qh,qf,za,B0,reduceIte,a7]
 refine kp rfl (qfd hW k b5 (L1Cur.mk code_0 0 0) v9 hx10 hS7) ?_
 rintro _ h20 ⟨v12,c13,v16,c17,rfl,hv14,hv18,hS21⟩
 simp only [zk,B0,reduceIte,a7]
 refine zb (us:=[v12,v16,.int .i64 v9.1.Next]) rfl (cs':=[v12,v16,
   .int .i64 v9.1.Next]) (i5 hS21) hW rfl (qo (n7 hv14) (qo (t7 hv18) (qo rfl zl))) (nle rfl) rfl (fun h22 hS23=>?_)
 simp only [qa,q8,B0,reduceIte,a7]
 have he:=qj hF11
 subst he
 refine jk (bb:=b1) (oo:=0) (v := .agg [v12,v16,.int .i64 v9.1.Next]) (by simp only [B0,reduceIte,a7]) ((zw (l9 _ _ _ hS23)).trans rfl) ?_
 exact ⟨v12,c13,v16,c17,by first | trivial | rfl,hv14,hv18,(f8 (f8 (l6 (f0 (l6 (hS23))))))⟩
end Go.Proofs.Ytjloihcijdcpeaa.X
