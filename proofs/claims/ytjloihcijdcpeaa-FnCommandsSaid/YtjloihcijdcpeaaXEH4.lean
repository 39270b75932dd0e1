/- The functions' code comes to what the plain functions say (4). -/
import Derived.Test.YtjloihcijdcpeaaXEH3
open Go.IntKind renaming wrap→d8
open List renaming append_assoc→f6,drop_succ_cons→b7,drop_zero→e8,length→b6,nil_append→o8,take_succ_cons→d7,take_zero→e9
open Nat renaming add_zero→b4,reduceAdd→a8,reduceEqDiff→a7,zero_add→a9
open Go.Proofs.Ytjloihcijdcpeaa.X.Sep renaming bk→l9,dc→l6,m1→f8,m2→f0,m3→i5,m4→o6,m5→s7,m6→r5,ni2→a1d,nil→a0t,no2→a13
open Go.Proofs.Ytjloihcijdcpeaa.X.SlF renaming first→a2g,free1→a0k,ia→a18,isrow→a1t,nil→a1l,one→n7,pf→a1n,rowfp→a1r,snap→a0g
open Go.Proofs.Ytjloihcijdcpeaa.X.SlG renaming opn→a12,toN→a1c
open Go.Proofs.Ytjloihcijdcpeaa.X.SlN renaming free1→a01,isrow→a1y,len→a2h,one→t7,pf→a2d,snap→a09,toG→a11
set_option linter.unusedVariables false
set_option linter.unusedSimpArgs false
set_option maxRecDepth 100000
namespace Go.Proofs.Ytjloihcijdcpeaa.X
open Go
theorem qmw {W:Nat→Bool}{h:Heap}{lo:Nat→Prop}{S0:List Obj} (hW:∀ b,
  lo b→W b=true) (v_0:Control) (pv0_0:XV) (pc0_0:List Obj) (ph0_0:SlF qe 3 86 pv0_0 v_0.Brokers pc0_0) (pv0_1:XV) (pc0_1:List Obj)
  (ph0_1:SlN Partition.R 5 39 pv0_1 v_0.Parts pc0_1) (v_1:Command) (r:Control × Int) (hF:qe3 v_0 v_1=some r) (hS:Sep h lo (pc0_0++(pc0_1 ++
  (S0)))) : Ret E W 55 [.agg [pv0_0,pv0_1,.int .i64 v_0.Next],.agg [.int .i64 v_1.Kind,.int .i64 v_1.Broker,.int .i64 v_1.Epoch,.int .i64 v_1.Part,.int .i64 v_1.Stamp,
  lst cI v_1.InStep]] h (fun v h'=>∃ rc0_0 rv0_1 rc0_1,v = .tup [.agg [pv0_0,rv0_1,.int .i64 r.1.Next],
  .int .i64 r.2]∧SlF qe 3 86 pv0_0 r.1.Brokers rc0_0∧SlN Partition.R 5 39 rv0_1 r.1.Parts rc0_1∧Sep h' lo (rc0_0++(rc0_1++(S0)))):=by
 refine Ret.of (fn:=x55) rfl (Run.of ?_)
 unfold qe3 at hF
 have zf0:zj [.agg [pv0_0,pv0_1,.int .i64 v_0.Next],.agg [.int .i64 v_1.Kind,.int .i64 v_1.Broker,.int .i64 v_1.Epoch,.int .i64 v_1.Part,.int .i64 v_1.Stamp,
   lst cI v_1.InStep]] 0 = .agg [pv0_0,pv0_1,.int .i64 v_0.Next]:=rfl
 have zf1:zj [.agg [pv0_0,pv0_1,.int .i64 v_0.Next],.agg [.int .i64 v_1.Kind,.int .i64 v_1.Broker,.int .i64 v_1.Epoch,.int .i64 v_1.Part,.int .i64 v_1.Stamp,
   lst cI v_1.InStep]] 1 = .agg [.int .i64 v_1.Kind,.int .i64 v_1.Broker,.int .i64 v_1.Epoch,.int .i64 v_1.Part,.int .i64 v_1.Stamp,lst cI v_1.InStep]:=rfl
 generalize zj [.agg [pv0_0,pv0_1,.int .i64 v_0.Next],.agg [.int .i64 v_1.Kind,.int .i64 v_1.Broker,.int .i64 v_1.Epoch,.int .i64 v_1.Part,.int .i64 v_1.Stamp,
   lst cI v_1.InStep]]=fr0 at zf0 zf1 ⊢
 simp only [x55,qh,qf,jp,zf0,B0,reduceIte,a7]
 refine jc (cs:=[pv0_0,pv0_1,.int .i64 v_0.Next]) hS rfl rfl (qo (n7 ph0_0) (qo (t7 ph0_1) (qo rfl zl))) (fun b1 h2 hS3=>?_)
 simp only [jp,zf1,B0,reduceIte,a7]
 refine jc (cs:=[.int .i64 v_1.Kind,.int .i64 v_1.Broker,.int .i64 v_1.Epoch,.int .i64 v_1.Part,.int .i64 v_1.Stamp,
   lst cI v_1.InStep]) hS3 rfl rfl rfl (fun b5 h6 hS7=>?_)
 simp only [z5,B0,reduceIte,a7]
 refine zt hS7 (fun b9 h10 hS11=>?_)
 simp only [qg,qa,B0,reduceIte,a7]
 refine zq (f8 hS11) hW (by simp only [B0,reduceIte,a7]) (fun h13 hS14=>?_)
 simp only [zp,qq4,qh,qf,qp,qb,a8,a9,b4,qs,qm,B0,reduceIte,a7]
 refine qi (v := .int .i64 v_1.Kind) rfl ?_
 simp only [qa,qr7,wi,qsq,qh,qf,qv,qb,z8,qg,qvi,qz,B0,reduceIte,a7]
 obtain ⟨oc23,hX24,hk25⟩:=jo hF
 refine ue (t:=(decide (v_1.Kind=1))) (fun fr' h'=>∃ s,oc23 = .nxt s∧∃ v17 c18 c21,
   fr' 2 = .ptr b1 0∧fr' 4 = .ptr b9 0∧SlN Partition.R 5 39 v17 s.1.Parts c18∧SlF qe 3 86 pv0_0 s.2 c21∧Sep h' lo ([Blk1 b1 [pv0_0,v17,
   .int .i64 s.1.Next] 29]++([Blk1 b9 [.nil,.nil,.int .i64 0] 29]++(c21++(c18++(S0)))))) (fun Q26 hN27 hR28 hE29=>⟨fun hc30=>?_,fun hc30=>?_⟩) ?_
 ·rw [iteT hc30] at hX24
  simp only [q2z,qh,qf,qp,qb,a8,a9,b4,q9,qm,B0,reduceIte,a7]
  refine qi (v := .int .i64 v_0.Next) ((z6 (l9 _ _ _ (f8 hS14))).trans rfl) ?_
  simp only [qv,qb,z8,qa,q47,qz,B0,reduceIte,a7]
  refine qx (t:=(decide (v_0.Next=1000))) (fun hc31=>?_) (fun hc31=>?_)
  ·rw [iteT hc31] at hX24
   simp only [qh,qf,qm,B0,reduceIte,a7]
   refine qi (v := .agg [pv0_0,pv0_1,.int .i64 v_0.Next]) ((zw (l9 _ _ _ (f8 hS14))).trans rfl) ?_
   simp only [zk,B0,reduceIte,a7]
   refine zb (us:=[pv0_0,pv0_1,.int .i64 v_0.Next]) rfl (cs':=[pv0_0,pv0_1,
     .int .i64 v_0.Next]) hS14 hW rfl (qo (n7 ph0_0) (qo (t7 ph0_1) (qo rfl zl))) (nle rfl) rfl (fun h32 hS33=>?_)
   simp only [qg,qa,q8,B0,reduceIte,a7]
   have e34:=qj hX24
   subst e34
   have hk25':=hk25
   dsimp only [jnO] at hk25'
   apply hR28
   have he:=qj hk25'
   subst he
   refine j8 (ql (kn (bb:=b9) (oo:=0) (v := .agg [pv0_0,pv0_1,
     .int .i64 v_0.Next]) (rfl) ((zw (l9 _ _ _ hS33)).trans rfl)) (ql (yl (v := .int .i64 4) (rfl)) zd)) ?_
   exact ⟨pc0_0,pv0_1,pc0_1,by first | trivial | rfl,ph0_0,ph0_1,(f8 (f8 (l6 ((l6 (hS33))))))⟩
  rw [iteF hc31] at hX24
  simp only [zf,q49,qh,qf,qp,qb,a8,a9,b4,q9,qm,B0,reduceIte,a7]
  refine qi (v:=pv0_0) ((z6 (l9 _ _ _ (f8 hS14))).trans rfl) ?_
  simp only [qp,qb,a8,a9,b4,qs,qm,B0,reduceIte,a7]
  refine qi (v := .int .i64 v_1.Broker) rfl ?_
  simp only [qp,qb,a8,a9,b4,q9,qm,B0,reduceIte,a7]
  refine qi (v := .int .i64 v_0.Next) ((z6 (l9 _ _ _ (f8 hS14))).trans rfl) ?_
  simp only [run_build,evp,B0,reduceIte,a7]
  refine qi (v := .agg [.int .i64 v_0.Next,.int .i64 9,.bool false]) rfl ?_
  obtain ⟨x35,hx36,hF37⟩:=qk hX24
  simp only [jf,B0,reduceIte,a7]
  obtain ⟨b38,hb39⟩:=a1t ph0_0 (kq hx36)
  refine qi (a18 ph0_0 hb39 hx36) ?_
  simp only [zk,B0,reduceIte,a7]
  refine qea (f:=qe) (x':=(Broker.mk v_0.Next 9 false)) (o:=0) ph0_0 (f0 hS14) hW hb39 hx36 (fun _=>rfl) rfl rfl (nle rfl) rfl
    (fun c42 h40 hv43 hS41=>?_)
  have hx44:=k7 (x':=(Broker.mk v_0.Next 9 false)) hx36
  simp only [qa,q6x,qf,qp,qb,a8,a9,b4,q9,qm,B0,reduceIte,a7]
  refine qi (v := .int .i64 v_0.Next) ((z6 (l9 _ _ _ (f0 hS41))).trans rfl) ?_
  simp only [qv,qb,qal,qp,a8,a9,b4,q9,zk,B0,reduceIte,a7]
  refine zb (us:=[.int .i64 (d8 .i64 (v_0.Next+1))]) rfl (cs':=[pv0_0,pv0_1,
    .int .i64 (d8 .i64 (v_0.Next+1))]) (f0 hS41) hW rfl rfl (nle rfl) rfl (fun h45 hS46=>?_)
  simp only [qa,qn,B0,reduceIte,a7]
  have e47:=qj hF37
  exact hN27 _ _ ⟨_,e47.symm,pv0_1,pc0_1,c42,rfl,rfl,ph0_1,hv43,(i5 (i5 (f0 (i5 hS46))))⟩
 ·rw [iteF hc30] at hX24
  simp only [qqi,qh,qf,qv,qb,z8,qg,qa,qrt,qz,B0,reduceIte,a7]
  refine qx (t:=(decide (v_1.Kind=2))) (fun hc48=>?_) (fun hc48=>?_)
  ·rw [iteT hc48] at hX24
   simp only [qtq,qh,qf,qp,qb,a8,a9,b4,q9,qm,B0,reduceIte,a7]
   refine qi (v:=pv0_0) ((z6 (l9 _ _ _ (f8 hS14))).trans rfl) ?_
   simp only [qp,qb,a8,a9,b4,qs,qm,B0,reduceIte,a7]
   refine qi (v := .int .i64 v_1.Broker) rfl ?_
   obtain ⟨x49,hx50,hF51⟩:=qk hX24
   simp only [jf,B0,reduceIte,a7]
   obtain ⟨b52,hb53⟩:=a1t ph0_0 (kq hx50)
   refine qi (a18 ph0_0 hb53 hx50) ?_
   simp only [qm,B0,reduceIte,a7]
   refine qi (v := .agg [.int .i64 x49.Epoch,.int .i64 x49.Left,
     .bool x49.Fenced]) ((SlF.lds (o:=0) ph0_0 (f0 hS14) hb53 hx50 (fun _=>rfl) (nle rfl)).trans rfl) ?_
   simp only [z5,B0,reduceIte,a7]
   refine zt hS14 (fun b54 h55 hS56=>?_)
   simp only [zk,B0,reduceIte,a7]
   refine zb (us:=[.int .i64 x49.Epoch,.int .i64 x49.Left,.bool x49.Fenced]) rfl (cs':=[.int .i64 x49.Epoch,.int .i64 x49.Left,
     .bool x49.Fenced]) hS56 hW rfl rfl (nle rfl) rfl (fun h58 hS59=>?_)
   simp only [qa,B0,reduceIte,a7]
   refine zq hS59 hW (by simp only [B0,reduceIte,a7]) (fun h60 hS61=>?_)
   simp only [zp,q1y,qh,qf,qp,qb,a8,a9,b4,qs,qm,B0,reduceIte,a7]
   refine qi (v := .int .i64 x49.Epoch) rfl ?_
   simp only [qv,qb,z8,qa,q23,qz,B0,reduceIte,a7]
   refine qx (t:=(decide (x49.Epoch=0))) (fun hc62=>?_) (fun hc62=>?_)
   ·rw [iteT hc62] at hF51
    simp only [qh,qf,qm,B0,reduceIte,a7]
    refine qi (v := .agg [pv0_0,pv0_1,.int .i64 v_0.Next]) ((zw (l9 _ _ _ (f8 hS61))).trans rfl) ?_
    simp only [zk,B0,reduceIte,a7]
    refine zb (us:=[pv0_0,pv0_1,.int .i64 v_0.Next]) rfl (cs':=[pv0_0,pv0_1,
      .int .i64 v_0.Next]) hS61 hW rfl (qo (n7 ph0_0) (qo (t7 ph0_1) (qo rfl zl))) (nle rfl) rfl (fun h63 hS64=>?_)
    simp only [qg,qa,q8,B0,reduceIte,a7]
    have e65:=qj hF51
    subst e65
    have hk25':=hk25
    dsimp only [jnO] at hk25'
    apply hR28
    have he:=qj hk25'
    subst he
    refine j8 (ql (kn (bb:=b9) (oo:=0) (v := .agg [pv0_0,pv0_1,
      .int .i64 v_0.Next]) (rfl) ((zw (l9 _ _ _ hS64)).trans rfl)) (ql (yl (v := .int .i64 1) (rfl)) zd)) ?_
    exact ⟨pc0_0,pv0_1,pc0_1,by first | trivial | rfl,ph0_0,ph0_1,(f8 (f8 (l6 ((l6 (hS64))))))⟩
   rw [iteF hc62] at hF51
   simp only [zf,q6e,qh,qf,qp,qb,a8,a9,b4,qs,qm,B0,reduceIte,a7]
   refine qi (v := .int .i64 x49.Epoch) rfl ?_
   simp only [qp,qb,a8,a9,b4,qs,qm,B0,reduceIte,a7]
   refine qi (v := .int .i64 v_1.Epoch) rfl ?_
   simp only [qv,qb,wm,qa,q45,qz,B0,reduceIte,a7]
   refine qx (t:=(decide (x49.Epoch≠v_1.Epoch))) (fun hc66=>?_) (fun hc66=>?_)
   ·rw [iteT hc66] at hF51
    simp only [qh,qf,qm,B0,reduceIte,a7]
    refine qi (v := .agg [pv0_0,pv0_1,.int .i64 v_0.Next]) ((zw (l9 _ _ _ (f8 hS61))).trans rfl) ?_
    simp only [zk,B0,reduceIte,a7]
    refine zb (us:=[pv0_0,pv0_1,.int .i64 v_0.Next]) rfl (cs':=[pv0_0,pv0_1,
      .int .i64 v_0.Next]) hS61 hW rfl (qo (n7 ph0_0) (qo (t7 ph0_1) (qo rfl zl))) (nle rfl) rfl (fun h67 hS68=>?_)
    simp only [qg,qa,q8,B0,reduceIte,a7]
    have e69:=qj hF51
    subst e69
    have hk25':=hk25
    dsimp only [jnO] at hk25'
    apply hR28
    have he:=qj hk25'
    subst he
    refine j8 (ql (kn (bb:=b9) (oo:=0) (v := .agg [pv0_0,pv0_1,
      .int .i64 v_0.Next]) (rfl) ((zw (l9 _ _ _ hS68)).trans rfl)) (ql (yl (v := .int .i64 2) (rfl)) zd)) ?_
    exact ⟨pc0_0,pv0_1,pc0_1,by first | trivial | rfl,ph0_0,ph0_1,(f8 (f8 (l6 ((l6 (hS68))))))⟩
   rw [iteF hc66] at hF51
   simp only [zf,q4y,qf,qp,qb,a8,a9,b4,q9,qm,B0,reduceIte,a7]
   refine qi (v:=pv0_0) ((z6 (l9 _ _ _ (f8 hS61))).trans rfl) ?_
   simp only [qp,qb,a8,a9,b4,qs,qm,B0,reduceIte,a7]
   refine qi (v := .int .i64 v_1.Broker) rfl ?_
   simp only [jf,B0,reduceIte,a7]
   refine qi (a18 ph0_0 hb53 hx50) ?_
   simp only [qp,qb,a8,a9,b4,q9,zk,B0,reduceIte,a7]
   refine qea (f:=qe) (x':=(Broker.mk x49.Epoch 9 x49.Fenced)) (o:=1) ph0_0 (f0 hS61) hW hb53 hx50 (fun _=>rfl) rfl rfl (nle rfl) rfl
     (fun c72 h70 hv73 hS71=>?_)
   have hx74:=k7 (x':=(Broker.mk x49.Epoch 9 x49.Fenced)) hx50
   simp only [qa,qn,B0,reduceIte,a7]
   have e75:=qj hF51
   exact hN27 _ _ ⟨_,e75.symm,pv0_1,pc0_1,c72,rfl,rfl,ph0_1,hv73,(i5 (f0 (f8 (i5 hS71))))⟩
  rw [iteF hc48] at hX24
  simp only [qu0,qh,qf,qv,qb,z8,qg,qa,qs8,qz,B0,reduceIte,a7]
  refine qx (t:=(decide (v_1.Kind=3))) (fun hc76=>?_) (fun hc76=>?_)
  ·rw [iteT hc76] at hX24
   simp only [qv6,qh,qf,qp,qb,a8,a9,b4,q9,qm,B0,reduceIte,a7]
   refine qi (v:=pv0_0) ((z6 (l9 _ _ _ (f8 hS14))).trans rfl) ?_
   simp only [zx,qb,SlF.plen ph0_0,qg,qa,B0,reduceIte,a7]
   obtain ⟨oc85,hX87,hk88⟩:=jo hX24
   simp only [qq8]
   refine qa8 (σ:=(List Broker)) (fun i83 s118=>qct i83 s118) (fun s fr' h'=>∃ c81,
     fr' 2 = .ptr b1 0∧fr' 4 = .ptr b9 0∧SlF qe 3 86 pv0_0 s c81∧Sep h' lo ([Blk1 b1 [pv0_0,pv0_1,.int .i64 v_0.Next] 29]++([Blk1 b9 [.nil,.nil,
     .int .i64 0] 29]++(c81++(pc0_1++(S0)))))) hX87 ⟨pc0_0,rfl,rfl,ph0_0,(i5 (f0 (i5 (i5 hS14))))⟩ (by simp only [B0,reduceIte,
     a7]) (by simp only [B0,reduceIte,a7]) (fun _ _ _ h=>h) rfl rfl (fun _ _ _ _ h=>h) (fun _ _ _ _ h=>h) (fun _ _ _ _ h=>h) (by decide) ?_ ?_
   ·rintro i83 s80 fr97 h98 hx102 ⟨c81,f100,f101,hv82,hS99⟩ f103 f104 oc86 hF89 hr90 Q91 hN92 hB96 hK93 hR94 hE95
    unfold qct at hF89
    simp only [qri,qh,qf,f103,qg,qa,qrz,f100,qp,qb,a8,a9,b4,q9,qm,B0,reduceIte,
      a7]
    refine qi (v:=pv0_0) ((z6 (l9 _ _ _ hS99)).trans rfl) ?_
    obtain ⟨x105,hx106,hF107⟩:=qk hF89
    simp only [qg,jf,B0,reduceIte,a7]
    obtain ⟨b108,hb109⟩:=a1t hv82 (kq hx106)
    refine qi (a18 hv82 hb109 hx106) ?_
    simp only [qp,qb,a8,a9,b4,q9,qm,B0,reduceIte,a7]
    refine qi (v := .int .i64 x105.Left) ((SlF.ld (o:=1) hv82 (f0 hS99) hb109 hx106 (fun _=>rfl) (nle rfl)).trans rfl) ?_
    simp only [qv,qb,qc7,qa,qtb,qz,B0,reduceIte,a7]
    refine qx (t:=(decide ((0:Int)<x105.Left))) (fun hc110=>?_) (fun hc110=>?_)
    ·rw [iteT hc110] at hF107
     simp only [qrl,qf,f100,qp,qb,a8,a9,b4,q9,qm,B0,reduceIte,a7]
     refine qi (v:=pv0_0) ((z6 (l9 _ _ _ hS99)).trans rfl) ?_
     simp only [qg,jf,B0,reduceIte,a7]
     refine qi (a18 hv82 hb109 hx106) ?_
     simp only [qp,qb,a8,a9,b4,q9,qm,B0,reduceIte,a7]
     refine qi (v := .int .i64 x105.Left) ((SlF.ld (o:=1) hv82 (f0 hS99) hb109 hx106 (fun _=>rfl) (nle rfl)).trans rfl) ?_
     simp only [qv,qb,qe1,jf,B0,reduceIte,a7]
     refine qi (a18 hv82 hb109 hx106) ?_
     simp only [qp,qb,a8,a9,b4,q9,zk,B0,reduceIte,a7]
     refine qea (f:=qe) (x':=(Broker.mk x105.Epoch (d8 .i64 (x105.Left - 1)) x105.Fenced)) (o:=1) hv82 (f0 hS99) hW hb109 hx106
       (fun _=>rfl) rfl rfl (nle rfl) rfl (fun c113 h111 hv114 hS112=>?_)
     have hx115:=k7 (x':=(Broker.mk x105.Epoch (d8 .i64 (x105.Left - 1)) x105.Fenced)) hx106
     simp only [qa,qn,B0,reduceIte,a7]
     have e116:=qj hF107
     exact hN92 _ _ _ e116.symm ⟨c113,f100,f101,hv114,(i5 (i5 (f8 (i5 hS112))))⟩ (f103) (f104)
    rw [iteF hc110] at hF107
    simp only [zf,qn,B0,reduceIte,a7]
    have e117:=qj hF107
    exact hN92 _ _ _ e117.symm ⟨c81,f100,f101,hv82,(i5 (i5 (i5 (i5 hS99))))⟩ (f103) (f104)
   rintro s119 fr122 h123 rfl ⟨c120,f125,f126,hv121,hS124⟩
   dsimp only [jnO] at hk88
   unfold qiw at hk88
   simp only [qn,B0,reduceIte,a7]
   have e127:=qj hk88
   exact hN27 _ _ ⟨_,e127.symm,pv0_1,pc0_1,c120,f125,f126,ph0_1,hv121,(i5 (i5 (i5 (i5 hS124))))⟩
  rw [iteF hc76] at hX24
  simp only [qs9,qh,qf,qv,qb,z8,qg,qa,quw,qz,B0,reduceIte,a7]
  refine qx (t:=(decide (v_1.Kind=4))) (fun hc129=>?_) (fun hc129=>?_)
  ·rw [iteT hc129] at hX24
   simp only [qvk,qh,qf,qp,qb,a8,a9,b4,qs,qm,B0,reduceIte,a7]
   refine qi (v:=lst cI v_1.InStep) rfl ?_
   simp only [zx,qb,z1,qv,z8,qg,B0,reduceIte,a7]
   refine zr 5 (fun fr' h'=>Sep h' lo ([Blk1 b1 [pv0_0,pv0_1,.int .i64 v_0.Next] 29]++([Blk1 b9 [.nil,.nil,
     .int .i64 0] 29]++(pc0_0++(pc0_1++(S0)))))∧fr' 90 = .bool ((decide ((b6 v_1.InStep:Int)=0))||(decide
     ((b6 v_0.Parts:Int)=5)))∧fr' 2 = .ptr b1 0∧fr' 3 = .ref [.int .i64 v_1.Kind,.int .i64 v_1.Broker,.int .i64 v_1.Epoch,.int .i64 v_1.Part,
     .int .i64 v_1.Stamp,lst cI v_1.InStep] 0∧fr' 4 = .ptr b9 0) (fun Q130 hN131=>?_) ?_
   ·simp only [d7,e9]
    simp only [qc (g:=85),B0,reduceIte,a7]
    refine qy (t:=(decide ((b6 v_1.InStep:Int)=0))) (fun hg132=>?_) (fun hg132=>?_)
    ·simp only [hg132,qc (g:=85),zv,qr,qb,zh,qa,qn,B0,reduceIte,a7]
     exact hN131 _ _ ⟨(i5 (f0 (i5 (i5 hS14)))),by rw [orT hg132]; simp only [B0,reduceIte,a7],rfl,rfl,rfl⟩
    ·simp only [hg132,qc (g:=85),qq,qp,qb,a8,a9,b4,q9,qm,B0,reduceIte,a7]
     refine qi (v:=pv0_1) ((z6 (l9 _ _ _ (f8 hS14))).trans rfl) ?_
     simp only [hg132,qc (g:=85),qq,zx,qb,a2h ph0_1,qv,z8,qr,zi,qa,qn,B0,reduceIte,
       a7]
     exact hN131 _ _ ⟨(i5 (f0 (i5 (i5 hS14)))),by rw [orF hg132]; simp only [B0,reduceIte,a7],rfl,rfl,rfl⟩
   rintro fr133 h138 ⟨hS139,f134,f135,f136,f137⟩
   simp only [b7,e8]
   simp only [qa,qtw,f134,qz,B0,reduceIte,a7]
   refine qx (t:=((decide ((b6 v_1.InStep:Int)=0))||(decide ((b6 v_0.Parts:Int)=5)))) (fun hc140=>?_) (fun hc140=>?_)
   ·rw [iteT hc140] at hX24
    simp only [qh,qf,f135,qm,B0,reduceIte,a7]
    refine qi (v := .agg [pv0_0,pv0_1,.int .i64 v_0.Next]) ((zw (l9 _ _ _ hS139)).trans rfl) ?_
    simp only [f137,zk,B0,reduceIte,a7]
    refine zb (us:=[pv0_0,pv0_1,.int .i64 v_0.Next]) rfl (cs':=[pv0_0,pv0_1,
      .int .i64 v_0.Next]) (f8 hS139) hW rfl (qo (n7 ph0_0) (qo (t7 ph0_1) (qo rfl zl))) (nle rfl) rfl (fun h141 hS142=>?_)
    simp only [qg,qa,q8,B0,reduceIte,a7]
    have e143:=qj hX24
    subst e143
    have hk25':=hk25
    dsimp only [jnO] at hk25'
    apply hR28
    have he:=qj hk25'
    subst he
    refine j8 (ql (kn (bb:=b9) (oo:=0) (v := .agg [pv0_0,pv0_1,
      .int .i64 v_0.Next]) (f137) ((zw (l9 _ _ _ hS142)).trans rfl)) (ql (yl (v := .int .i64 4) (rfl)) zd)) ?_
    exact ⟨pc0_0,pv0_1,pc0_1,by first | trivial | rfl,ph0_0,ph0_1,(f8 (f8 (l6 ((l6 (hS142))))))⟩
   rw [iteF hc140] at hX24
   simp only [zf,qu6,ji,qa0,evp,B0,reduceIte,a7]
   refine xm (n:=1) (f:=cI) ([] : List Int) hS139 rfl rfl (fun v145 c146 h147 hv148 hS149 hq144=>?_)
   simp only [f136,z3,qt,a8,a9,b4,qs,z2,B0,reduceIte,a7]
   refine zc (v:=lst cI v_1.InStep) rfl ?_
   simp only [qlx,evp,B0,reduceIte,a7]
   refine qir (n:=1) (f:=cI) ([] : List Int) hS149 rfl rfl (fun v151 c152 h153 hv154 hS155=>?_)
   simp only [f136,qdl,qt,a8,a9,b4,qs,qbc,qci,B0,reduceIte,a7]
   refine zc (v:=lst cI v_1.InStep) rfl ?_
   simp only [f135,qdl,qt,a8,a9,b4,q9,qbc,B0,reduceIte,a7]
   refine qfp (Sep.ltk hS139) ?_
   refine zc (v:=pv0_1) ((z6 (l9 _ _ _ (f0 hS155))).trans rfl) ?_
   simp only [qeg,B0,reduceIte,a7]
   obtain ⟨l157,hx158,hF159⟩:=qk hX24
   have hq160:=nwq (fun z hz=>Sep.dj (f0 (f0 hS155)) qcb (a1r hv148 z hz))
   have hq161:=nwq (fun z hz=>Sep.dj (f0 (i5 hS155)) qcb (a1r hv148 z hz))
   refine qhq (qjd (fun z hz=>Sep.dj (f0 (f0 hS155)) qcb (a1r hv148 z hz)) qf0) ?_
   refine qbv (f:=cI) hv148 (f8 hS155) hW (fun _=>rfl) (fun _=>rfl) (wk (fun _=>rfl)) hx158 (fun v162 c163 h164 hv165 hS166=>?_)
   simp only [qeg,B0,reduceIte,a7]
   obtain ⟨l168,hx169,hF170⟩:=qk hF159
   have hq171:=nwq (fun z hz=>Sep.dj (f0 (f0 hS166)) qcb (a1r hv154 z hz))
   have hq172:=nwq (fun z hz=>Sep.dj (f0 (i5 hS166)) qcb (a1r hv154 z hz))
   refine qhq (qjd (fun z hz=>Sep.dj (f0 (f0 hS166)) qcb (a1r hv154 z hz)) qf0) ?_
   refine qbv (f:=cI) hv154 (f8 hS166) hW (fun _=>rfl) (fun _=>rfl) (wk (fun _=>rfl)) hx169 (fun v173 c174 h175 hv176 hS177=>?_)
   simp only [qil,evp,B0,reduceIte,a7]
   refine zc (v := .agg [v162,v173,.int .i64 (-2),.int .i64 0,.int .i64 0]) (qdz (qat (us:=[v162]) (vs:=[v162,.nil,.int .i64 0,.int .i64 0,
     .int .i64 0]) (kw (n7 hv165)) rfl (nle rfl) (qo (n7 hv165) zl) rfl (qat (us:=[v173]) (vs:=[v162,v173,.int .i64 0,.int .i64 0,
     .int .i64 0]) (kw (n7 hv176)) rfl (nle rfl) (qo (n7 hv176) zl) rfl (qat (us:=[.int .i64 (-2)]) (vs:=[v162,v173,.int .i64 (-2),
     .int .i64 0,.int .i64 0]) rfl rfl (nle rfl) rfl rfl qfu)))) ?_
   simp only [qa0,evp,B0,reduceIte,a7]
   refine qiu (R:=Partition.R) (n:=5) (cs:=[v162,v173,.int .i64 (-2),.int .i64 0,
     .int .i64 0]) (os:=c163++(c174)) (Sep.bi2 (c1:=c163) (c2:=c174) (f8 hS177)) (qat (us:=[v162,v173,.int .i64 (-2),.int .i64 0,
     .int .i64 0]) (vs:=[v162,v173,.int .i64 (-2),.int .i64 0,
     .int .i64 0]) rfl rfl (nle rfl) (qo (n7 hv165) (qo (n7 hv176) (qo rfl (qo rfl (qo rfl zl))))) rfl qfu) (Partition.RI (x :=
     (Partition.mk l157 l168 (-2) 0 0)) hv165 hv176) rfl (fun v179 c180 h181 hv182 hS183=>?_)
   simp only [qsk,B0,reduceIte,a7]
   obtain ⟨l185,hx186,hF187⟩:=qk hF170
   refine qki (R:=Partition.R) (c:=pc0_1) ph0_1 hv182 (o6 hS183) hW Partition.RO.len Partition.RO.one hx186 (fun v188 c189 h190 hv191 hS192=>?_)
   simp only [f135,z3,qt,a8,a9,b4,q9,uy,B0,reduceIte,a7]
   refine qay (us:=[v188]) (kw (t7 hv191)) (cs':=[pv0_0,v188,
     .int .i64 v_0.Next]) (f8 hS192) hW rfl (qo (t7 hv191) zl) (nle rfl) rfl (fun h194 hS195=>?_)
   simp only [zm,qn,B0,reduceIte,a7]
   have e196:=qj hF187
   exact hN27 _ _ ⟨_,e196.symm,v188,c189,pc0_0,f135,f137,hv191,ph0_0,(i5 (i5 (i5 (f8 hS195))))⟩
  rw [iteF hc129] at hX24
  simp only [qvo,qh,qf,qv,qb,z8,qg,qa,qu2,qz,B0,reduceIte,a7]
  refine qx (t:=(decide (v_1.Kind=5))) (fun hc197=>?_) (fun hc197=>?_)
  ·rw [iteT hc197] at hX24
   simp only [qqq,qh,qf,qm,B0,reduceIte,a7]
   refine qi (v := .agg [pv0_0,pv0_1,.int .i64 v_0.Next]) ((zw (l9 _ _ _ (f8 hS14))).trans rfl) ?_
   simp only [qm,B0,reduceIte,a7]
   refine qi (v := .agg [.int .i64 v_1.Kind,.int .i64 v_1.Broker,.int .i64 v_1.Epoch,.int .i64 v_1.Part,.int .i64 v_1.Stamp,lst cI v_1.InStep]) rfl ?_
   obtain ⟨v198,hx199,hF200⟩:=qk hX24
   simp only [za,B0,reduceIte,a7]
   refine ja rfl (ql (z4 (ql (a0g ph0_0 (f0 hS14) rfl (fun _=>rfl) (fun _=>rfl)) (ql (a09 ph0_1 _ (i5 hS14) rfl Partition.RO)
     (ql qu zd)))) (ql (z4 (ql qu (ql qu (ql qu (ql qu (ql qu (ql zn zd))))))) zd))
     (qky (fun b hb=>decide_eq_true hb) v_0 v_1 v198 hx199) ?_
   simp only [qg,qa,qvh,qh,qf,qv,qb,wm,qwr,qz,B0,reduceIte,a7]
   refine qx (t:=(decide (v198≠0))) (fun hc201=>?_) (fun hc201=>?_)
   ·rw [iteT hc201] at hF200
    simp only [qw4,qh,qf,qm,B0,reduceIte,a7]
    refine qi (v := .agg [pv0_0,pv0_1,.int .i64 v_0.Next]) ((zw (l9 _ _ _ (f8 hS14))).trans rfl) ?_
    simp only [qg,zk,B0,reduceIte,a7]
    refine zb (us:=[pv0_0,pv0_1,.int .i64 v_0.Next]) rfl (cs':=[pv0_0,pv0_1,
      .int .i64 v_0.Next]) hS14 hW rfl (qo (n7 ph0_0) (qo (t7 ph0_1) (qo rfl zl))) (nle rfl) rfl (fun h202 hS203=>?_)
    simp only [qg,qa,q8,B0,reduceIte,a7]
    have e204:=qj hF200
    subst e204
    have hk25':=hk25
    dsimp only [jnO] at hk25'
    apply hR28
    have he:=qj hk25'
    subst he
    refine j8 (ql (kn (bb:=b9) (oo:=0) (v := .agg [pv0_0,pv0_1,
      .int .i64 v_0.Next]) (rfl) ((zw (l9 _ _ _ hS203)).trans rfl)) (ql (yl (v := .int .i64 v198) (rfl)) zd)) ?_
    exact ⟨pc0_0,pv0_1,pc0_1,by first | trivial | rfl,ph0_0,ph0_1,(f8 (f8 (l6 ((l6 (hS203))))))⟩
   rw [iteF hc201] at hF200
   simp only [zf,qqp,qh,ji,qdl,qt,a8,a9,b4,q9,qbc,B0,reduceIte,a7]
   refine qfp (Sep.ltk (f8 hS14)) ?_
   refine zc (v:=pv0_1) ((z6 (l9 _ _ _ (f8 hS14))).trans rfl) ?_
   simp only [qdl,qt,a8,a9,b4,qs,qbc,qci,B0,reduceIte,a7]
   refine zc (v := .int .i64 v_1.Part) rfl ?_
   simp only [qa0,evp,B0,reduceIte,a7]
   refine xm (n:=1) (f:=cI) ([] : List Int) hS14 rfl rfl (fun v206 c207 h208 hv209 hS210 hq205=>?_)
   simp only [z3,qt,a8,a9,b4,qs,z2,B0,reduceIte,a7]
   refine zc (v:=lst cI v_1.InStep) rfl ?_
   simp only [qeg,B0,reduceIte,a7]
   obtain ⟨l212,hx213,hF214⟩:=qk hF200
   have hq215:=nwq (fun z hz=>Sep.dj (f8 (f8 hS210)) qcb (a1r hv209 z hz))
   have hq216:=nwq (fun z hz=>Sep.dj (f8 (f0 hS210)) qcb (a1r hv209 z hz))
   refine qhq (qjd (fun z hz=>Sep.dj (f8 (f0 hS210)) qcb (a1r hv209 z hz)) qf0) ?_
   refine qbv (f:=cI) hv209 hS210 hW (fun _=>rfl) (fun _=>rfl) (wk (fun _=>rfl)) hx213 (fun v217 c218 h219 hv220 hS221=>?_)
   obtain ⟨x223,hx224,hF225⟩:=qk hF214
   simp only [wn,B0,reduceIte,a7]
   obtain ⟨b226,hb227⟩:=a1y ph0_1 (kq hx224)
   refine zc (SlN.ia ph0_1 hb227 hx224) ?_
   obtain ⟨c230,cs231,os232,hv233,hR234,hS235⟩:=a12 (a11 ph0_1 hb227 Partition.RO.len) hx224 jl Partition.RO.len (o6 hS221)
   obtain ⟨v237,c238,v241,c242,hv239,hv243,rfl,rfl⟩:=hR234
   have hS236:=a13 hS235
   simp only [z3,qt,a8,a9,b4,q9,uy,B0,reduceIte,a7]
   refine qcp (n:=5) (us:=[v217]) (cs:=[v237,v241,.int .i64 x223.Leader,.int .i64 x223.Epoch,.int .i64 x223.Stamp]) (o:=1) (cs':=[v237,v217,
     .int .i64 x223.Leader,.int .i64 x223.Epoch,
     .int .i64 x223.Stamp]) (kw (n7 hv220)) hv233 rfl hx224 hS236 hW rfl (qo (n7 hv220) zl) (nle rfl) rfl (fun c245 h228 hv246 hS229=>?_)
   simp only [zm,qsl,qf,qp,qb,a8,a9,b4,q9,qm,B0,reduceIte,a7]
   refine qi (v:=pv0_1) ((z6 (l9 _ _ _ (s7 hS229))).trans rfl) ?_
   simp only [qp,qb,a8,a9,b4,qs,qm,B0,reduceIte,a7]
   refine qi (v := .int .i64 v_1.Part) rfl ?_
   simp only [jf,B0,reduceIte,a7]
   refine qi (SlG.ia hv246 hx224) ?_
   simp only [qp,qb,a8,a9,b4,q9,qm,B0,reduceIte,a7]
   refine qi (v := .int .i64 x223.Stamp) ((SlG.ld (o:=4) hv246 rfl hx224 hS229 (nle rfl)).trans rfl) ?_
   simp only [qv,qb,qal,jf,B0,reduceIte,a7]
   refine qi (SlG.ia hv246 hx224) ?_
   simp only [qp,qb,a8,a9,b4,q9,zk,B0,reduceIte,a7]
   refine qdk (n:=5) (us:=[.int .i64 (d8 .i64 (x223.Stamp+1))]) (cs:=[v237,v217,.int .i64 x223.Leader,.int .i64 x223.Epoch,
     .int .i64 x223.Stamp]) (o:=4) (cs':=[v237,v217,.int .i64 x223.Leader,.int .i64 x223.Epoch,
     .int .i64 (d8 .i64 (x223.Stamp+1))]) rfl hv246 rfl hx224 hS229 hW rfl rfl (nle rfl) rfl (fun c249 h247 hv250 hS248=>?_)
   simp only [qa,qn,B0,reduceIte,a7]
   obtain ⟨c251,hv252,hS253⟩:=SlG.cls (e':=(Partition.mk x223.Homes l212 x223.Leader x223.Epoch (d8 .i64 (x223.Stamp+1)))) (c:=c249) (os:=c238 ++
     (c218)) hv250 rfl hx224 jl (Partition.RI (x:=(Partition.mk x223.Homes l212 x223.Leader x223.Epoch (d8 .i64 (x223.Stamp+1)))) hv239 hv220) (a1d
     (c1:=c238) (c2:=c218) (f0 (f0 (i5 hS248))))
   have hx254:=k7 (x':=(Partition.mk x223.Homes l212 x223.Leader x223.Epoch (d8 .i64 (x223.Stamp+1)))) hx224
   have hv255:=a1c hv252
   have e256:=qj hF225
   exact hN27 _ _ ⟨_,e256.symm,pv0_1,c251,pc0_0,rfl,rfl,hv255,ph0_0,(i5 (f0 (i5 (l6 (f8 hS253)))))⟩
  rw [iteF hc197] at hX24
  simp only [qr9,qh,qf,qv,qb,z8,qg,qa,qqf,qz,B0,reduceIte,a7]
  refine qx (t:=(decide (v_1.Kind=6))) (fun hc257=>?_) (fun hc257=>?_)
  ·rw [iteT hc257] at hX24
   simp only [qrn,qh,qf,qp,qb,a8,a9,b4,qs,qm,B0,reduceIte,a7]
   refine qi (v := .int .i64 v_1.Part) rfl ?_
   simp only [qp,qb,a8,a9,b4,q9,qm,B0,reduceIte,a7]
   refine qi (v:=pv0_1) ((z6 (l9 _ _ _ (f8 hS14))).trans rfl) ?_
   simp only [zx,qb,a2h ph0_1,qv,qcg,qa,qti,qz,B0,reduceIte,a7]
   refine qx (t:=(decide ((b6 v_0.Parts:Int)≤v_1.Part))) (fun hc258=>?_) (fun hc258=>?_)
   ·rw [iteT hc258] at hX24
    simp only [qh,qf,qm,B0,reduceIte,a7]
    refine qi (v := .agg [pv0_0,pv0_1,.int .i64 v_0.Next]) ((zw (l9 _ _ _ (f8 hS14))).trans rfl) ?_
    simp only [zk,B0,reduceIte,a7]
    refine zb (us:=[pv0_0,pv0_1,.int .i64 v_0.Next]) rfl (cs':=[pv0_0,pv0_1,
      .int .i64 v_0.Next]) hS14 hW rfl (qo (n7 ph0_0) (qo (t7 ph0_1) (qo rfl zl))) (nle rfl) rfl (fun h259 hS260=>?_)
    simp only [qg,qa,q8,B0,reduceIte,a7]
    have e261:=qj hX24
    subst e261
    have hk25':=hk25
    dsimp only [jnO] at hk25'
    apply hR28
    have he:=qj hk25'
    subst he
    refine j8 (ql (kn (bb:=b9) (oo:=0) (v := .agg [pv0_0,pv0_1,
      .int .i64 v_0.Next]) (rfl) ((zw (l9 _ _ _ hS260)).trans rfl)) (ql (yl (v := .int .i64 1) (rfl)) zd)) ?_
    exact ⟨pc0_0,pv0_1,pc0_1,by first | trivial | rfl,ph0_0,ph0_1,(f8 (f8 (l6 ((l6 (hS260))))))⟩
   rw [iteF hc258] at hX24
   simp only [zf,qqy,qh,ji,z3,qt,a8,a9,b4,q9,z2,B0,reduceIte,a7]
   refine zc (v:=pv0_1) ((z6 (l9 _ _ _ (f8 hS14))).trans rfl) ?_
   simp only [z3,qt,a8,a9,b4,qs,z2,B0,reduceIte,a7]
   refine zc (v := .int .i64 v_1.Part) rfl ?_
   obtain ⟨x262,hx263,hF264⟩:=qk hX24
   simp only [wn,B0,reduceIte,a7]
   obtain ⟨b265,hb266⟩:=a1y ph0_1 (kq hx263)
   refine zc (SlN.ia ph0_1 hb266 hx263) ?_
   obtain ⟨c267,cs268,os269,hv270,hR271,hS272⟩:=a12 (a11 ph0_1 hb266 Partition.RO.len) hx263 jl Partition.RO.len (i5 hS14)
   obtain ⟨v274,c275,v278,c279,hv276,hv280,rfl,rfl⟩:=hR271
   have hS273:=a13 hS272
   simp only [z3,qt,a8,a9,b4,q9,z2,B0,reduceIte,a7]
   refine zc (v:=v278) ((SlG.ld (o:=1) hv270 rfl hx263 hS273 (nle rfl)).trans rfl) ?_
   simp only [z3,qt,a8,a9,b4,qs,z2,B0,reduceIte,a7]
   refine zc (v := .int .i64 v_1.Broker) rfl ?_
   obtain ⟨v282,hx283,hF284⟩:=qk hF264
   simp only [xx,B0,reduceIte,a7]
   refine qga rfl (ql (a0g hv280 (f0 hS273) rfl (fun _=>rfl) (fun _=>rfl)) (ql qu zd)) (qc5
     (fun b hb=>decide_eq_true hb) x262.InStep v_1.Broker v282 hx283) ?_
   simp only [qhi,qt,jt,jm,B0,reduceIte,a7]
   obtain ⟨v288,hx289,hF290⟩:=qk hF284
   refine qf8 8 (fun fr' h'=>Sep h' lo ([Blk1 b1 [pv0_0,pv0_1,.int .i64 v_0.Next] 29]++([Blk1 b9 [.nil,.nil,
     .int .i64 0] 29]++(pc0_0++(c267++(c275++(c279++(S0)))))))∧fr' 163 = .bool v288∧fr' 2 = .ptr b1 0∧fr' 3 = .ref [.int .i64 v_1.Kind,.int .i64 v_1.Broker,
     .int .i64 v_1.Epoch,.int .i64 v_1.Part,.int .i64 v_1.Stamp,lst cI v_1.InStep] 0∧fr' 4 = .ptr b9 0) rfl (fun Q285 hN286=>?_) ?_
   ·simp only [d7,e9]
    simp only [zo (g:=155),B0,reduceIte,a7]
    refine yu (t:=(!v282)) (fun hg287=>?_) (fun hg287=>?_)
    ·rw [iteT hg287] at hx289
     simp only [hg287,zo (g:=155),wj,yd,qt,zh,zm,qn,B0,reduceIte,a7]
     have e291:=qj hx289
     exact hN286 _ _ ⟨(s7 (o6 (s7 (f0 (f0 (f0 hS273)))))),by rw [←e291]; simp only [B0,reduceIte,a7],rfl,rfl,rfl⟩
    ·rw [iteF hg287] at hx289
     simp only [hg287,zo (g:=155),zz,z3,qt,a8,a9,b4,q9,z2,B0,reduceIte,a7]
     refine zc (v:=pv0_0) ((z6 (l9 _ _ _ (o6 hS273))).trans rfl) ?_
     simp only [hg287,zo (g:=155),zz,z3,qt,a8,a9,b4,qs,z2,B0,reduceIte,a7]
     refine zc (v := .int .i64 v_1.Broker) rfl ?_
     obtain ⟨x292,hx293,hF294⟩:=qk hx289
     simp only [hg287,zo (g:=155),zz,wn,B0,reduceIte,a7]
     obtain ⟨b295,hb296⟩:=a1t ph0_0 (kq hx293)
     refine zc (a18 ph0_0 hb296 hx293) ?_
     simp only [hg287,zo (g:=155),zz,z3,qt,a8,a9,b4,q9,z2,B0,reduceIte,a7]
     refine zc (v := .bool x292.Fenced) ((SlF.ld (o:=2) ph0_0 (s7 hS273) hb296 hx293 (fun _=>rfl) (nle rfl)).trans rfl) ?_
     simp only [hg287,yd,qt,zi,zm,qn,B0,reduceIte,a7]
     have e297:=qj hF294
     exact hN286 _ _ ⟨(s7 (o6 (s7 (f0 (f0 (f0 hS273)))))),by rw [←e297]; simp only [B0,reduceIte,a7],rfl,rfl,rfl⟩
   rintro fr298 h303 ⟨hS304,f299,f300,f301,f302⟩
   simp only [b7,e8]
   simp only [zm,qwu,f299,qz,B0,reduceIte,a7]
   refine qx (t:=v288) (fun hc305=>?_) (fun hc305=>?_)
   ·rw [iteT hc305] at hF290
    simp only [qh,qf,f300,qm,B0,reduceIte,a7]
    refine qi (v := .agg [pv0_0,pv0_1,.int .i64 v_0.Next]) ((zw (l9 _ _ _ hS304)).trans rfl) ?_
    simp only [f302,zk,B0,reduceIte,a7]
    refine zb (us:=[pv0_0,pv0_1,.int .i64 v_0.Next]) rfl (cs':=[pv0_0,pv0_1,
      .int .i64 v_0.Next]) (f8 hS304) hW rfl (qo (n7 ph0_0) (qo (SlG.one hv270) (qo rfl zl))) (nle rfl) rfl (fun h306 hS307=>?_)
    simp only [qg,qa,q8,B0,reduceIte,a7]
    have e308:=qj hF290
    subst e308
    have hk25':=hk25
    dsimp only [jnO] at hk25'
    apply hR28
    obtain ⟨c309,hv310,hS311⟩:=SlG.cls0 (c:=c267) (os:=c275++(c279)) hv270 rfl hx263 jl (Partition.RI (x:=x262) hv276 hv280) (a1d (c1:=c275)
      (c2:=c279) (s7 (s7 (s7 hS307))))
    have hv312:=a1c hv310
    have he:=qj hk25'
    subst he
    refine j8 (ql (kn (bb:=b9) (oo:=0) (v := .agg [pv0_0,pv0_1,
      .int .i64 v_0.Next]) (f302) ((zw (l9 _ _ _ (f8 hS311))).trans rfl)) (ql (yl (v := .int .i64 4) (rfl)) zd)) ?_
    exact ⟨pc0_0,pv0_1,c309,by first | trivial | rfl,ph0_0,hv312,(f8 (l6 (f8 (l6 (f8 hS311)))))⟩
   rw [iteF hc305] at hF290
   simp only [zf,qv5,qf,f300,qp,qb,a8,a9,b4,q9,qm,B0,reduceIte,a7]
   refine qi (v:=pv0_1) ((z6 (l9 _ _ _ hS304)).trans rfl) ?_
   simp only [f301,qp,qb,a8,a9,b4,qs,qm,B0,reduceIte,a7]
   refine qi (v := .int .i64 v_1.Part) rfl ?_
   simp only [f301,qp,qb,a8,a9,b4,qs,qm,B0,reduceIte,a7]
   refine qi (v := .int .i64 v_1.Broker) rfl ?_
   simp only [jf,B0,reduceIte,a7]
   refine qi (SlG.ia hv270 hx263) ?_
   simp only [qp,qb,a8,a9,b4,q9,zk,B0,reduceIte,a7]
   refine qdk (n:=5) (us:=[.int .i64 v_1.Broker]) (cs:=[v274,v278,.int .i64 x262.Leader,.int .i64 x262.Epoch,.int .i64 x262.Stamp]) (o:=2) (cs':=[v274,
     v278,.int .i64 v_1.Broker,.int .i64 x262.Epoch,.int .i64 x262.Stamp]) rfl hv270 rfl hx263 (i5 hS304) hW rfl rfl (nle rfl) rfl (fun c315 h313 hv316 hS314=>?_)
   simp only [qa,qn,B0,reduceIte,a7]
   obtain ⟨c317,hv318,hS319⟩:=SlG.cls (e':=(Partition.mk x262.Homes x262.InStep v_1.Broker x262.Epoch x262.Stamp)) (c:=c315) (os:=c275 ++
     (c279)) hv316 rfl hx263 jl (Partition.RI (x:=(Partition.mk x262.Homes x262.InStep v_1.Broker x262.Epoch x262.Stamp)) hv276 hv280) (a1d (c1:=c275)
     (c2:=c279) (f0 (s7 (s7 hS314))))
   have hx320:=k7 (x':=(Partition.mk x262.Homes x262.InStep v_1.Broker x262.Epoch x262.Stamp)) hx263
   have hv321:=a1c hv318
   have e322:=qj hF290
   exact hN27 _ _ ⟨_,e322.symm,pv0_1,c317,pc0_0,f300,f302,hv321,ph0_0,(i5 (i5 (i5 hS319)))⟩
  rw [iteF hc257] at hX24
  simp only [zf,qn,B0,reduceIte,a7]
  have e323:=qj hX24
  exact hN27 _ _ ⟨_,e323.symm,pv0_1,pc0_1,pc0_0,rfl,rfl,ph0_1,ph0_0,(i5 (f0 (i5 (i5 hS14))))⟩
 rintro fr324 h325 ⟨⟨s15,s20⟩,rfl,v17,c18,c21,f327,f328,hv19,hv22,hS326⟩
 dsimp only [jnO] at hk25
 dsimp only at *
 unfold qd7 at hk25
 simp only [ki,qqk,qh,qf,f327,qp,qb,a8,a9,b4,q9,qm,B0,reduceIte,a7]
 refine qi (v:=pv0_0) ((z6 (l9 _ _ _ hS326)).trans rfl) ?_
 simp only [zx,qb,SlF.plen hv22,qg,qa,B0,reduceIte,a7]
 obtain ⟨oc337,hX339,hk340⟩:=jo hk25
 simp only [qwm]
 refine qa8 (σ:=(List Broker)) (fun i335 s368=>qd5 i335 s368) (fun s fr' h'=>∃ c333,
   fr' 2 = .ptr b1 0∧fr' 4 = .ptr b9 0∧SlF qe 3 86 pv0_0 s c333∧Sep h' lo ([Blk1 b1 [pv0_0,v17,.int .i64 s15.Next] 29]++([Blk1 b9 [.nil,.nil,
   .int .i64 0] 29]++(c333++(c18++(S0)))))) hX339 ⟨c21,f327,f328,hv22,(i5 (i5 (i5 (i5 hS326))))⟩ (by simp only [B0,reduceIte,
   a7]) (by simp only [B0,reduceIte,a7]) (fun _ _ _ h=>h) rfl rfl (fun _ _ _ _ h=>h) (fun _ _ _ _ h=>h) (fun _ _ _ _ h=>h) (by decide) ?_ ?_
 ·rintro i335 s332 fr349 h350 hx354 ⟨c333,f352,f353,hv334,hS351⟩ f355 f356 oc338 hF341 hr342 Q343 hN344 hB348 hK345 hR346 hE347
  unfold qd5 at hF341
  simp only [qq2,qh,qf,f355,qg,qa,qt4,ji,f352,z3,qt,a8,a9,b4,q9,z2,B0,
    reduceIte,a7]
  refine zc (v:=pv0_0) ((z6 (l9 _ _ _ hS351)).trans rfl) ?_
  simp only [jm,qt,f352,z3,a8,a9,b4,q9,z2,B0,reduceIte,a7]
  refine zc (v:=pv0_0) ((z6 (l9 _ _ _ hS351)).trans rfl) ?_
  obtain ⟨x357,hx358,hF359⟩:=qk hF341
  simp only [jm,qt,wn,B0,reduceIte,a7]
  obtain ⟨b360,hb361⟩:=a1t hv334 (kq hx358)
  refine zc (a18 hv334 hb361 hx358) ?_
  simp only [z3,qt,a8,a9,b4,q9,z2,B0,reduceIte,a7]
  refine zc (v := .int .i64 x357.Left) ((SlF.ld (o:=1) hv334 (f0 hS351) hb361 hx358 (fun _=>rfl) (nle rfl)).trans rfl) ?_
  simp only [wt,qt,z8,wn,B0,reduceIte,a7]
  refine zc (a18 hv334 hb361 hx358) ?_
  simp only [z3,qt,a8,a9,b4,q9,uy,B0,reduceIte,a7]
  refine qfv (f:=qe) (x':=(Broker.mk x357.Epoch x357.Left (decide (x357.Left=0)))) (o:=2) hv334 (f0 hS351) hW hb361 hx358 (fun _=>rfl) rfl rfl
    (nle rfl) rfl (fun c364 h362 hv365 hS363=>?_)
  have hx366:=k7 (x':=(Broker.mk x357.Epoch x357.Left (decide (x357.Left=0)))) hx358
  simp only [zm,qn,B0,reduceIte,a7]
  have e367:=qj hF359
  exact hN344 _ _ _ e367.symm ⟨c364,f352,f353,hv365,(i5 (i5 (f8 (i5 hS363))))⟩ (f355) (f356)
 rintro s369 fr372 h373 rfl ⟨c370,f375,f376,hv371,hS374⟩
 dsimp only [jnO] at hk340
 unfold qix at hk340
 simp only [qh,qf,f375,qm,B0,reduceIte,a7]
 refine qi (v := .agg [pv0_0,v17,.int .i64 s15.Next]) ((zw (l9 _ _ _ hS374)).trans rfl) ?_
 simp only [f376,zk,B0,reduceIte,a7]
 refine zb (us:=[pv0_0,v17,.int .i64 s15.Next]) rfl (cs':=[pv0_0,v17,
   .int .i64 s15.Next]) (f8 hS374) hW rfl (qo (n7 hv371) (qo (t7 hv19) (qo rfl zl))) (nle rfl) rfl (fun h377 hS378=>?_)
 simp only [qg,qa,q8,B0,reduceIte,a7]
 have he:=qj hk340
 subst he
 refine j8 (ql (kn (bb:=b9) (oo:=0) (v := .agg [pv0_0,v17,
   .int .i64 s15.Next]) (f376) ((zw (l9 _ _ _ hS378)).trans rfl)) (ql (yl (v := .int .i64 0) (rfl)) zd)) ?_
 exact ⟨c370,v17,c18,by first | trivial | rfl,hv371,hv19,(f8 (f8 (l6 ((l6 (hS378))))))⟩
theorem qge {W:Nat→Bool}{h:Heap} (hW:∀ b,
  (geL h.length) b→W b=true) (c_0:Control) (r:Control) (hF:qb2 c_0=some r) : Ret E W 56 [.agg [lst qe c_0.Brokers,lst qd c_0.Parts,
  .int .i64 c_0.Next]] h (fun v h'=>∃ rv0_0 rc0_0 rv0_1 rc0_1,v = .agg [rv0_0,rv0_1,
  .int .i64 r.Next]∧SlF qe 3 86 rv0_0 r.Brokers rc0_0∧SlN Partition.R 5 39 rv0_1 r.Parts rc0_1∧Sep h' (geL h.length) (rc0_0++(rc0_1++([])))):=by
 refine Ret.of (fn:=x56) rfl (Run.of ?_)
 unfold qb2 at hF
 have zf0:zj [.agg [lst qe c_0.Brokers,lst qd c_0.Parts,.int .i64 c_0.Next]] 0 = .agg [lst qe c_0.Brokers,lst qd c_0.Parts,
   .int .i64 c_0.Next]:=rfl
 generalize zj [.agg [lst qe c_0.Brokers,lst qd c_0.Parts,.int .i64 c_0.Next]]=fr0 at zf0 ⊢
 have hS:Sep h (geL h.length) []:=a0t h
 simp only [x56,qh,qf,jp,zf0,B0,reduceIte,a7]
 refine jc (cs:=[lst qe c_0.Brokers,lst qd c_0.Parts,.int .i64 c_0.Next]) hS rfl rfl rfl (fun b1 h2 hS3=>?_)
 simp only [z5,B0,reduceIte,a7]
 refine zt hS3 (fun b5 h6 hS7=>?_)
 simp only [qa,B0,reduceIte,a7]
 refine zq (f8 hS7) hW (by simp only [B0,reduceIte,a7]) (fun h9 hS10=>?_)
 simp only [zp,q52,qh,ji,qa0,evp,B0,reduceIte,a7]
 refine xm (n:=3) (f:=qe) ([] : List Broker) hS10 rfl rfl (fun v12 c13 h14 hv15 hS16 hq11=>?_)
 simp only [qnc,B0,reduceIte,a7]
 refine qin hS16 (fun b18 h19 hS20=>?_)
 simp only [z3,qt,a8,a9,b4,qs,z2,B0,reduceIte,a7]
 refine zc (v:=lst qe c_0.Brokers) rfl ?_
 simp only [qeg,B0,reduceIte,a7]
 obtain ⟨l22,hx23,hF24⟩:=qk hF
 have hq25:=nwq (fun z hz=>Sep.dj (f0 (f0 hS20)) qcb (a1r hv15 z hz))
 refine qhq qf0 ?_
 refine qbv (f:=qe) hv15 (f8 hS20) hW (fun _=>rfl) (fun _=>rfl) (wk (fun _=>rfl)) hx23 (fun v26 c27 h28 hv29 hS30=>?_)
 simp only [qdl,qt,a8,a9,b4,qs,qbc,qci,B0,reduceIte,a7]
 refine zc (v := .int .i64 c_0.Next) rfl ?_
 simp only [qil,evp,B0,reduceIte,a7]
 refine zc (v := .agg [v26,.nil,.int .i64 c_0.Next]) (qdz (qat (us:=[v26]) (vs:=[v26,.nil,
   .int .i64 0]) (kw (n7 hv29)) rfl (nle rfl) (qo (n7 hv29) zl) rfl (qat (us:=[.int .i64 c_0.Next]) (vs:=[v26,.nil,
   .int .i64 c_0.Next]) rfl rfl (nle rfl) rfl rfl qfu))) ?_
 simp only [uy,B0,reduceIte,a7]
 refine qay (us:=[v26,.nil,.int .i64 c_0.Next]) rfl (cs':=[v26,.nil,
   .int .i64 c_0.Next]) (f8 hS30) hW rfl (qo (n7 hv29) (qo rfl (qo rfl zl))) (nle rfl) rfl (fun h32 hS33=>?_)
 simp only [zm,q0m,qh,qf,qp,qb,a8,a9,b4,qs,qm,B0,reduceIte,a7]
 refine qi (v:=lst qd c_0.Parts) rfl ?_
 simp only [zx,qb,z1,qg,qa,B0,reduceIte,a7]
 obtain ⟨oc46,hX48,hk49⟩:=jo hF24
 simp only [q57]
 refine ku (σ:=Control) c_0.Parts (fun i44 x45 s125=>qa2 l22 i44 x45 s125) (fun s fr' h'=>∃ v41 c42,
   fr' 2 = .ptr b5 0∧fr' 3 = .ptr b18 0∧fr' 14=lst qd c_0.Parts∧SlN Partition.R 5 39 v41 s.Parts c42∧Sep h' (geL h.length) ([Blk1 b5 [.nil,.nil,
   .int .i64 0] 29]++([Blk1 b18 [v26,v41,.int .i64 s.Next] 29]++(c27++(c42++([])))))) hX48 ⟨.nil,[],rfl,rfl,rfl,SlN.nil,
   ((f0 (f8 (f8 hS33))) : Sep _ (geL h.length) ([Blk1 b5 [.nil,.nil,.int .i64 0] 29]++([Blk1 b18 [v26,.nil,
   .int .i64 c_0.Next] 29]++(c27++([])))))⟩ (by simp only [B0,reduceIte,a7]) (by simp only [B0,reduceIte,
   a7]) (fun _ _ _ h=>h) rfl rfl (fun _ _ _ _ h=>h) (fun _ _ _ _ h=>h) (fun _ _ _ _ h=>h) (by decide) ?_ ?_
 ·rintro i44 x45 s39 fr58 h59 hx64 ⟨v41,c42,f61,f62,f63,hv43,hS60⟩ f65 f66 oc47 hF50 hr51 Q52 hN53 hB57 hK54 hR55 hE56
  unfold qa2 at hF50
  simp only [q1u,qh,qf,f63,f65,jf,B0,reduceIte,a7]
  refine qi (v := .ref (qd x45) 0) (kt hx64 rfl) ?_
  simp only [qm,B0,reduceIte,a7]
  refine qi (v := .agg [lst cI x45.Homes,lst cI x45.InStep,.int .i64 x45.Leader,.int .i64 x45.Epoch,.int .i64 x45.Stamp]) rfl ?_
  simp only [z5,B0,reduceIte,a7]
  refine zt hS60 (fun b67 h68 hS69=>?_)
  simp only [zk,B0,reduceIte,a7]
  refine zb (us:=[lst cI x45.Homes,lst cI x45.InStep,.int .i64 x45.Leader,.int .i64 x45.Epoch,.int .i64 x45.Stamp]) rfl (cs':=[lst cI x45.Homes,
    lst cI x45.InStep,.int .i64 x45.Leader,.int .i64 x45.Epoch,.int .i64 x45.Stamp]) hS69 hW rfl rfl (nle rfl) rfl (fun h71 hS72=>?_)
  simp only [qa,q18,qh,qf,j0,evp,B0,reduceIte,a7]
  refine ju (n:=1) (f:=cI) ([] : List Int) hS72 rfl rfl (fun v73 c74 h75 hv76 hS77=>?_)
  simp only [qp,qb,a8,a9,b4,q9,qm,B0,reduceIte,a7]
  refine qi (v:=lst cI x45.Homes) ((z6 (l9 _ _ _ (f8 hS77))).trans rfl) ?_
  simp only [wz,B0,reduceIte,a7]
  obtain ⟨l79,hx80,hF81⟩:=qk hF50
  refine yx (f:=cI) hv76 hS77 hW (fun _=>rfl) (fun _=>rfl) (wk (fun _=>rfl)) hx80 (fun v82 c83 h84 hv85 hS86=>?_)
  simp only [qp,qb,a8,a9,b4,q9,zk,B0,reduceIte,a7]
  refine zb (us:=[v82]) (kw (n7 hv85)) (cs':=[v82,lst cI x45.InStep,.int .i64 x45.Leader,.int .i64 x45.Epoch,
    .int .i64 x45.Stamp]) (f8 hS86) hW rfl (qo (n7 hv85) zl) (nle rfl) rfl (fun h88 hS89=>?_)
  simp only [qa,q2k,qh,qf,j0,evp,B0,reduceIte,a7]
  refine ju (n:=1) (f:=cI) ([] : List Int) hS89 rfl rfl (fun v90 c91 h92 hv93 hS94=>?_)
  simp only [qp,qb,a8,a9,b4,q9,qm,B0,reduceIte,a7]
  refine qi (v:=lst cI x45.InStep) ((z6 (l9 _ _ _ (f8 hS94))).trans rfl) ?_
  simp only [wz,B0,reduceIte,a7]
  obtain ⟨l96,hx97,hF98⟩:=qk hF81
  refine yx (f:=cI) hv93 hS94 hW (fun _=>rfl) (fun _=>rfl) (wk (fun _=>rfl)) hx97 (fun v99 c100 h101 hv102 hS103=>?_)
  simp only [qp,qb,a8,a9,b4,q9,zk,B0,reduceIte,a7]
  refine zb (us:=[v99]) (kw (n7 hv102)) (cs':=[v82,v99,.int .i64 x45.Leader,.int .i64 x45.Epoch,
    .int .i64 x45.Stamp]) (f8 hS103) hW rfl (qo (n7 hv102) zl) (nle rfl) rfl (fun h105 hS106=>?_)
  simp only [qa,q6g,qf,f62,qp,qb,a8,a9,b4,q9,qm,B0,reduceIte,a7]
  refine qi (v:=v41) ((z6 (l9 _ _ _ (o6 hS106))).trans rfl) ?_
  simp only [qm,B0,reduceIte,a7]
  refine qi (v := .agg [v82,v99,.int .i64 x45.Leader,.int .i64 x45.Epoch,.int .i64 x45.Stamp]) ((zw (l9 _ _ _ hS106)).trans rfl) ?_
  simp only [j0,evp,B0,reduceIte,a7]
  refine qey (R:=Partition.R) (n:=5) (cs:=[v82,v99,.int .i64 x45.Leader,.int .i64 x45.Epoch,
    .int .i64 x45.Stamp]) (os:=c83++(c100)) (Sep.bi2 (c1:=c83) (c2:=c100) (f0 (f8 hS106))) (qat (us:=[v82,v99,.int .i64 x45.Leader,.int .i64 x45.Epoch,
    .int .i64 x45.Stamp]) (vs:=[v82,v99,.int .i64 x45.Leader,.int .i64 x45.Epoch,
    .int .i64 x45.Stamp]) rfl rfl (nle rfl) (qo (n7 hv85) (qo (n7 hv102) (qo rfl (qo rfl (qo rfl zl))))) rfl qfu) (Partition.RI (x :=
    (Partition.mk l79 l96 x45.Leader x45.Epoch x45.Stamp)) hv85 hv102) rfl (fun v107 c108 h109 hv110 hS111=>?_)
  simp only [wz,B0,reduceIte,a7]
  obtain ⟨l113,hx114,hF115⟩:=qk hF98
  refine qhl (R:=Partition.R) (c:=c42) hv43 hv110 (s7 hS111) hW Partition.RO.len Partition.RO.one hx114 (fun v116 c117 h118 hv119 hS120=>?_)
  simp only [f62,qp,qb,a8,a9,b4,q9,zk,B0,reduceIte,a7]
  refine zb (us:=[v116]) (kw (t7 hv119)) (cs':=[v26,v116,
    .int .i64 s39.Next]) (i5 hS120) hW rfl (qo (t7 hv119) zl) (nle rfl) rfl (fun h122 hS123=>?_)
  simp only [qa,qn,B0,reduceIte,a7]
  have e124:=qj hF115
  exact hN53 _ _ _ e124.symm ⟨v116,c117,f61,f62,f63,hv119,(i5 (f0 (i5 (f8 (l6 (f0 hS123))))))⟩ (f65) (f66)
 rintro s126 fr131 h132 rfl ⟨v128,c129,f134,f135,f136,hv130,hS133⟩
 dsimp only [jnO] at hk49
 unfold qh0 at hk49
 simp only [qh,qf,f135,qm,B0,reduceIte,a7]
 refine qi (v := .agg [v26,v128,.int .i64 s126.Next]) ((zw (l9 _ _ _ (f8 hS133))).trans rfl) ?_
 simp only [f134,zk,B0,reduceIte,a7]
 refine zb (us:=[v26,v128,.int .i64 s126.Next]) rfl (cs':=[v26,v128,
   .int .i64 s126.Next]) hS133 hW rfl (qo (n7 hv29) (qo (t7 hv130) (qo rfl zl))) (nle rfl) rfl (fun h137 hS138=>?_)
 simp only [qa,q8,B0,reduceIte,a7]
 have he:=qj hk49
 subst he
 refine jk (bb:=b5) (oo:=0) (v := .agg [v26,v128,.int .i64 s126.Next]) (by simp only [f134,B0,reduceIte,
   a7]) ((zw (l9 _ _ _ hS138)).trans rfl) ?_
 exact ⟨v26,c27,v128,c129,by first | trivial | rfl,hv29,hv130,(f8 (f8 (l6 ((l6 (hS138))))))⟩
end Go.Proofs.Ytjloihcijdcpeaa.X
namespace Go.Proofs.Ytjloihcijdcpeaa.X
open Go
theorem qlq {W:Nat→Bool}{h:Heap}{lo:Nat→Prop}{S0:List Obj} (hW:∀ b,
  lo b→W b=true) (c_0:Control) (pv0_0:XV) (pc0_0:List Obj) (ph0_0:SlF qe 3 86 pv0_0 c_0.Brokers pc0_0) (pv0_1:XV) (pc0_1:List Obj)
  (ph0_1:SlN Partition.R 5 39 pv0_1 c_0.Parts pc0_1) (pv1:XV) (pc1:List Obj) (old_1:List Int) (ph1:SlF cI 1 3 pv1 old_1 pc1) (r:Control × (List Int))
  (hF:qc6 c_0 old_1=some r) (hS:Sep h lo (pc0_0++(pc0_1++(pc1++(S0))))) : Ret E W 57 [.agg [pv0_0,pv0_1,.int .i64 c_0.Next],
  pv1] h (fun v h'=>∃ rc0_0 rc0_1 ic1,v = .agg [pv0_0,pv0_1,
  .int .i64 r.1.Next]∧SlF qe 3 86 pv0_0 r.1.Brokers rc0_0∧SlN Partition.R 5 39 pv0_1 r.1.Parts rc0_1∧SlF cI 1 3 pv1 r.2 ic1∧Sep h' lo (rc0_0++(rc0_1 ++
  (ic1++(S0))))):=by
 refine Ret.of (fn:=x57) rfl (Run.of ?_)
 unfold qc6 at hF
 have zf0:zj [.agg [pv0_0,pv0_1,.int .i64 c_0.Next],pv1] 0 = .agg [pv0_0,pv0_1,.int .i64 c_0.Next]:=rfl
 have zf1:zj [.agg [pv0_0,pv0_1,.int .i64 c_0.Next],pv1] 1=pv1:=rfl
 generalize zj [.agg [pv0_0,pv0_1,.int .i64 c_0.Next],pv1]=fr0 at zf0 zf1 ⊢
 simp only [x57,qh,qf,jp,zf0,B0,reduceIte,a7]
 refine jc (cs:=[pv0_0,pv0_1,.int .i64 c_0.Next]) hS rfl rfl (qo (n7 ph0_0) (qo (t7 ph0_1) (qo rfl zl))) (fun b1 h2 hS3=>?_)
 simp only [z5,B0,reduceIte,a7]
 refine zt hS3 (fun b5 h6 hS7=>?_)
 simp only [qa,B0,reduceIte,a7]
 refine zq (f8 hS7) hW (by simp only [B0,reduceIte,a7]) (fun h9 hS10=>?_)
 simp only [zp,qse,qh,qf,qp,qb,a8,a9,b4,qs,qm,B0,reduceIte,a7]
 refine qi (v:=pv0_1) rfl ?_
 simp only [zx,qb,a2h ph0_1,qg,qa,B0,reduceIte,a7]
 obtain ⟨oc19,hX21,hk22⟩:=jo hF
 simp only [qvu]
 refine qa8 (σ:=(List Partition)) (fun i17 s194=>qag c_0 old_1 i17 s194) (fun s fr' h'=>∃ c15,fr' 1=pv1∧fr' 2 = .ref [pv0_0,pv0_1,
   .int .i64 c_0.Next] 0∧fr' 4 = .ptr b5 0∧fr' 9=pv0_1∧SlN Partition.R 5 39 pv0_1 s c15∧Sep h' lo (pc1++(pc0_0++(c15++([Blk1 b5 [.nil,.nil,
   .int .i64 0] 29]++(S0)))))) hX21 ⟨pc0_1,zf1,rfl,rfl,rfl,ph0_1,(i5 (f0 (f0 hS10)))⟩ (by simp only [B0,reduceIte,a7]) (by simp only [B0,
   reduceIte,a7]) (fun _ _ _ h=>h) rfl rfl (fun _ _ _ _ h=>h) (fun _ _ _ _ h=>h) (fun _ _ _ _ h=>h) (by decide) ?_ ?_
 ·rintro i17 s14 fr31 h32 hx38 ⟨c15,f34,f35,f36,f37,hv16,hS33⟩ f39 f40 oc20 hF23 hr24 Q25 hN26 hB30 hK27 hR28 hE29
  unfold qag at hF23
  obtain ⟨x41,hx42,hF43⟩:=qk hF23
  simp only [qrw,qh,qf,f39,qg,f37,jf,B0,reduceIte,a7]
  obtain ⟨b44,hb45⟩:=a1y hv16 (kq hx42)
  refine qi (SlN.ia hv16 hb45 hx42) ?_
  obtain ⟨c46,cs47,os48,hv49,hR50,hS51⟩:=a12 (a11 hv16 hb45 Partition.RO.len) hx42 jl Partition.RO.len (f0 hS33)
  obtain ⟨v53,c54,v57,c58,hv55,hv59,rfl,rfl⟩:=hR50
  have hS52:=a13 hS51
  simp only [qm,B0,reduceIte,a7]
  refine qi (v := .agg [v53,v57,.int .i64 x41.Leader,.int .i64 x41.Epoch,.int .i64 x41.Stamp]) ((SlG.lds (o:=0) hv49 rfl hx42 hS52 (nle rfl)).trans rfl) ?_
  simp only [z5,B0,reduceIte,a7]
  refine zt hS52 (fun b61 h62 hS63=>?_)
  simp only [qg,zk,B0,reduceIte,a7]
  refine zb (us:=[v53,v57,.int .i64 x41.Leader,.int .i64 x41.Epoch,.int .i64 x41.Stamp]) rfl (cs':=[v53,v57,.int .i64 x41.Leader,.int .i64 x41.Epoch,
    .int .i64 x41.Stamp]) hS63 hW rfl (qo (n7 hv55) (qo (n7 hv59) (qo rfl (qo rfl (qo rfl zl))))) (nle rfl) rfl (fun h65 hS66=>?_)
  simp only [qa,qth,qh,qf,qg,quk,f34,zx,qb,SlF.plen ph1,qv,qfi,q2p,qz,B0,reduceIte,a7]
  obtain ⟨s67,hX69,hk70⟩:=qk hF43
  refine ue (t:=(decide ((i17:Int)<(b6 old_1:Int)))) (fun fr' h'=>fr' 1=pv1∧fr' 2 = .ref [pv0_0,pv0_1,
    .int .i64 c_0.Next] 0∧fr' 4 = .ptr b5 0∧fr' 5 = .int .i64 (i17:Int)∧fr' 6 = .ptr b61 0∧fr' 7 = .int .i64 s67∧fr' 9=pv0_1∧fr' 10 = .int .i64
    (b6 c_0.Parts:Int)∧fr' 11 = .int .i64 (i17:Int)∧Sep h' lo (pc1++(pc0_0++(c46++([Blk1 b5 [.nil,.nil,.int .i64 0] 29]++([Blk1 b61 [v53,v57,
    .int .i64 x41.Leader,.int .i64 x41.Epoch,.int .i64 x41.Stamp] 39]++(c54++(c58++(S0))))))))) (fun Q71 hN72 hR73 hE74=>⟨fun hc75=>?_,fun hc75=>?_⟩) ?_
  ·rw [iteT hc75] at hX69
   obtain ⟨x76,hx77,hF78⟩:=qk hX69
   simp only [q46,qf,f34,qg,jf,B0,reduceIte,a7]
   obtain ⟨b79,hb80⟩:=a1t ph1 (kq hx77)
   refine qi (a18 ph1 hb80 hx77) ?_
   simp only [qm,B0,reduceIte,a7]
   refine qi (v := .int .i64 x76) ((SlF.ld (o:=0) ph1 (o6 hS66) hb80 hx77 (fun _=>rfl) (nle rfl)).trans rfl) ?_
   simp only [qg,qa,qn,B0,reduceIte,a7]
   have e81:=qj hF78
   subst e81
   exact hN72 _ _ ⟨f34,f35,f36,rfl,rfl,rfl,f37,f40,f39,(r5 (r5 (o6 (r5 (f0 (i5 (i5 hS66)))))))⟩
  ·rw [iteF hc75] at hX69
   simp only [zf,qn,B0,reduceIte,a7]
   have e82:=qj hX69
   subst e82
   exact hN72 _ _ ⟨f34,f35,f36,rfl,rfl,rfl,f37,f40,f39,(r5 (r5 (o6 (r5 (f0 (i5 (i5 hS66)))))))⟩
  rintro fr83 h84 ⟨f86,f87,f88,f89,f90,f91,f92,f93,f94,hS85⟩
  unfold qex at hk70
  simp only [qwv,qh,qf,f90,qp,qb,a8,a9,b4,q9,qm,B0,reduceIte,a7]
  refine qi (v := .int .i64 x41.Leader) ((z6 (l9 _ _ _ (o6 hS85))).trans rfl) ?_
  simp only [qv,qb,qfi,qg,B0,reduceIte,a7]
  obtain ⟨v98,hx99,hF100⟩:=qk hk70
  refine zr 8 (fun fr' h'=>Sep h' lo (pc1++(pc0_0++(c46++([Blk1 b5 [.nil,.nil,.int .i64 0] 29]++([Blk1 b61 [v53,v57,.int .i64 x41.Leader,.int .i64 x41.Epoch,
    .int .i64 x41.Stamp] 39]++(c54++(c58++(S0))))))))∧fr' 35 = .bool v98∧fr' 1=pv1∧fr' 2 = .ref [pv0_0,pv0_1,
    .int .i64 c_0.Next] 0∧fr' 4 = .ptr b5 0∧fr' 5 = .int .i64 (i17:Int)∧fr' 6 = .ptr b61 0∧fr' 7 = .int .i64 s67∧fr' 9=pv0_1∧fr' 10 = .int .i64
    (b6 c_0.Parts:Int)∧fr' 11 = .int .i64 (i17:Int)) (fun Q95 hN96=>?_) ?_
  ·simp only [d7,e9]
   simp only [qc (g:=27),B0,reduceIte,a7]
   refine qy (t:=(decide (x41.Leader<0))) (fun hg97=>?_) (fun hg97=>?_)
   ·rw [iteT hg97] at hx99
    simp only [hg97,qc (g:=27),zv,qr,qb,zh,qa,qn,B0,reduceIte,a7]
    have e101:=qj hx99
    exact hN96 _ _ ⟨(r5 (r5 (r5 (r5 (r5 (r5 (r5 hS85))))))),by rw [←e101]; simp only [B0,reduceIte,a7],f86,f87,f88,f89,f90,f91,
      f92,f93,f94⟩
   ·rw [iteF hg97] at hx99
    simp only [hg97,qc (g:=27),qq,f87,qp,qb,a8,a9,b4,qs,qm,B0,reduceIte,a7]
    refine qi (v:=pv0_0) rfl ?_
    simp only [hg97,qc (g:=27),qq,f90,qp,qb,a8,a9,b4,q9,qm,B0,reduceIte,a7]
    refine qi (v := .int .i64 x41.Leader) ((z6 (l9 _ _ _ (o6 hS85))).trans rfl) ?_
    obtain ⟨x102,hx103,hF104⟩:=qk hx99
    simp only [hg97,qc (g:=27),qq,jf,B0,reduceIte,a7]
    obtain ⟨b105,hb106⟩:=a1t ph0_0 (kq hx103)
    refine qi (a18 ph0_0 hb106 hx103) ?_
    simp only [hg97,qc (g:=27),qq,qp,qb,a8,a9,b4,q9,qm,B0,reduceIte,a7]
    refine qi (v := .bool x102.Fenced) ((SlF.ld (o:=2) ph0_0 (f8 hS85) hb106 hx103 (fun _=>rfl) (nle rfl)).trans rfl) ?_
    simp only [hg97,qr,qb,zi,qa,qn,B0,reduceIte,a7]
    have e107:=qj hF104
    exact hN96 _ _ ⟨(r5 (r5 (r5 (r5 (r5 (r5 (r5 hS85))))))),by rw [←e107]; simp only [B0,reduceIte,a7],f86,f87,f88,f89,f90,f91,
      f92,f93,f94⟩
  rintro fr108 h119 ⟨hS120,f109,f110,f111,f112,f113,f114,f115,f116,f117,f118⟩
  simp only [b7,e8]
  simp only [qa,qz2,f109,qz,B0,reduceIte,a7]
  obtain ⟨s121,hX123,hk124⟩:=qk hF100
  refine ue (t:=v98) (fun fr' h'=>fr' 1=pv1∧fr' 2 = .ref [pv0_0,pv0_1,
    .int .i64 c_0.Next] 0∧fr' 4 = .ptr b5 0∧fr' 5 = .int .i64 (i17:Int)∧fr' 6 = .ptr b61 0∧fr' 7 = .int .i64 s67∧fr' 9=pv0_1∧fr' 10 = .int .i64
    (b6 c_0.Parts:Int)∧fr' 11 = .int .i64 (i17:Int)∧Sep h' lo (pc1++(pc0_0++(c46++([Blk1 b5 [.nil,.nil,.int .i64 0] 29]++([Blk1 b61 [v53,v57,
    .int .i64 s121.Leader,.int .i64 s121.Epoch,.int .i64 s121.Stamp] 39]++(c54++(c58++(S0))))))))) (fun Q125 hN126 hR127 hE128=>⟨fun hc129=>?_,fun hc129=>?_⟩) ?_
  ·rw [iteT hc129] at hX123
   simp only [q6a,qf,f111,qm,B0,reduceIte,a7]
   refine qi (v := .agg [pv0_0,pv0_1,.int .i64 c_0.Next]) rfl ?_
   simp only [f114,qp,qb,a8,a9,b4,q9,qm,B0,reduceIte,a7]
   refine qi (v:=v57) ((z6 (l9 _ _ _ (o6 hS120))).trans rfl) ?_
   obtain ⟨c130,hv131,hS132⟩:=SlG.cls0 (c:=c46) (os:=c54++(c58)) hv49 rfl hx42 jl (Partition.RI (x:=x41) hv55 hv59) (a1d (c1:=c54) (c2:=c58) (o6
     (r5 (r5 hS120))))
   have hv133:=a1c hv131
   obtain ⟨v134,hx135,hF136⟩:=qk hX123
   simp only [za,B0,reduceIte,a7]
   refine ja rfl (ql (z4 (ql (a0g ph0_0 (f0 hS132) rfl (fun _=>rfl) (fun _=>rfl)) (ql (a09 hv133 _ hS132 rfl Partition.RO)
     (ql qu zd)))) (ql (a0g hv59 (r5 hS120) rfl (fun _=>rfl) (fun _=>rfl)) zd)) (qhn (fun b hb=>decide_eq_true hb)
     (Control.mk c_0.Brokers s14 c_0.Next) x41.InStep v134 hx135) ?_
   simp only [f114,qp,qb,a8,a9,b4,q9,zk,B0,reduceIte,a7]
   refine zb (us:=[.int .i64 v134]) rfl (cs':=[v53,v57,.int .i64 v134,.int .i64 x41.Epoch,
     .int .i64 x41.Stamp]) (o6 hS120) hW rfl rfl (nle rfl) rfl (fun h137 hS138=>?_)
   simp only [qa,qn,B0,reduceIte,a7]
   have e139:=qj hF136
   subst e139
   exact hN126 _ _ ⟨f110,f111,f112,f113,f114,f115,f116,f117,f118,(r5 (r5 (r5 (r5 (f0 (r5 (r5 hS138)))))))⟩
  ·rw [iteF hc129] at hX123
   simp only [zf,qn,B0,reduceIte,a7]
   have e140:=qj hX123
   subst e140
   exact hN126 _ _ ⟨f110,f111,f112,f113,f114,f115,f116,f117,f118,(r5 (r5 (r5 (r5 (r5 (r5 (r5 hS120)))))))⟩
  rintro fr141 h142 ⟨f144,f145,f146,f147,f148,f149,f150,f151,f152,hS143⟩
  unfold qet at hk124
  simp only [qxf,qh,qf,f148,qp,qb,a8,a9,b4,q9,qm,B0,reduceIte,a7]
  refine qi (v := .int .i64 s121.Leader) ((z6 (l9 _ _ _ (o6 hS143))).trans rfl) ?_
  simp only [f149,qg,qv,qb,wm,qa,q54,qz,B0,reduceIte,a7]
  obtain ⟨s153,hX155,hk156⟩:=qk hk124
  refine ue (t:=(decide (s121.Leader≠s67))) (fun fr' h'=>fr' 1=pv1∧fr' 2 = .ref [pv0_0,pv0_1,
    .int .i64 c_0.Next] 0∧fr' 4 = .ptr b5 0∧fr' 5 = .int .i64 (i17:Int)∧fr' 6 = .ptr b61 0∧fr' 9=pv0_1∧fr' 10 = .int .i64
    (b6 c_0.Parts:Int)∧fr' 11 = .int .i64 (i17:Int)∧Sep h' lo (pc1++(pc0_0++(c46++([Blk1 b5 [.nil,.nil,.int .i64 0] 29]++([Blk1 b61 [v53,v57,
    .int .i64 s153.Leader,.int .i64 s153.Epoch,.int .i64 s153.Stamp] 39]++(c54++(c58++(S0))))))))) (fun Q157 hN158 hR159 hE160=>⟨fun hc161=>?_,fun hc161=>?_⟩) ?_
  ·rw [iteT hc161] at hX155
   simp only [q3m,qh,qf,f148,qp,qb,a8,a9,b4,q9,qm,B0,reduceIte,a7]
   refine qi (v := .int .i64 s121.Stamp) ((z6 (l9 _ _ _ (o6 hS143))).trans rfl) ?_
   simp only [qv,qb,qal,f148,qp,a8,a9,b4,q9,zk,B0,reduceIte,a7]
   refine zb (us:=[.int .i64 (d8 .i64 (s121.Stamp+1))]) rfl (cs':=[v53,v57,.int .i64 s121.Leader,.int .i64 s121.Epoch,
     .int .i64 (d8 .i64 (s121.Stamp+1))]) (o6 hS143) hW rfl rfl (nle rfl) rfl (fun h162 hS163=>?_)
   simp only [qa,q5b,qh,qf,f148,qp,qb,a8,a9,b4,q9,qm,B0,reduceIte,a7]
   refine qi (v := .int .i64 s121.Leader) ((z6 (l9 _ _ _ hS163)).trans rfl) ?_
   simp only [qv,qb,qcg,qa,q51,qz,B0,reduceIte,a7]
   refine qx (t:=(decide ((0:Int)≤s121.Leader))) (fun hc164=>?_) (fun hc164=>?_)
   ·rw [iteT hc164] at hX155
    simp only [qyz,qf,f148,qp,qb,a8,a9,b4,q9,qm,B0,reduceIte,a7]
    refine qi (v := .int .i64 s121.Epoch) ((z6 (l9 _ _ _ hS163)).trans rfl) ?_
    simp only [qv,qb,qal,f148,qp,a8,a9,b4,q9,zk,B0,reduceIte,a7]
    refine zb (us:=[.int .i64 (d8 .i64 (s121.Epoch+1))]) rfl (cs':=[v53,v57,.int .i64 s121.Leader,.int .i64 (d8 .i64 (s121.Epoch+1)),
      .int .i64 (d8 .i64 (s121.Stamp+1))]) hS163 hW rfl rfl (nle rfl) rfl (fun h165 hS166=>?_)
    simp only [qa,qn,B0,reduceIte,a7]
    have e167:=qj hX155
    subst e167
    exact hN158 _ _ ⟨f144,f145,f146,f147,f148,f150,f151,f152,(r5 (r5 (r5 (r5 (f0 (r5 (r5 hS166)))))))⟩
   rw [iteF hc164] at hX155
   simp only [zf,qn,B0,reduceIte,a7]
   have e168:=qj hX155
   subst e168
   exact hN158 _ _ ⟨f144,f145,f146,f147,f148,f150,f151,f152,(r5 (r5 (r5 (r5 (f0 (r5 (r5 hS163)))))))⟩
  ·rw [iteF hc161] at hX155
   simp only [zf,qn,B0,reduceIte,a7]
   have e169:=qj hX155
   subst e169
   exact hN158 _ _ ⟨f144,f145,f146,f147,f148,f150,f151,f152,(r5 (r5 (r5 (r5 (r5 (r5 (r5 hS143)))))))⟩
  rintro fr170 h171 ⟨f173,f174,f175,f176,f177,f178,f179,f180,hS172⟩
  unfold qe2 at hk156
  simp only [qre,qf,f174,qp,qb,a8,a9,b4,qs,qm,B0,reduceIte,a7]
  refine qi (v:=pv0_1) rfl ?_
  simp only [f176,qg,f177,qm,B0,reduceIte,a7]
  refine qi (v := .agg [v53,v57,.int .i64 s153.Leader,.int .i64 s153.Epoch,.int .i64 s153.Stamp]) ((zw (l9 _ _ _ (o6 hS172))).trans rfl) ?_
  simp only [jf,B0,reduceIte,a7]
  refine qi (SlG.ia hv49 hx42) ?_
  simp only [zk,B0,reduceIte,a7]
  refine qdk (n:=5) (us:=[v53,v57,.int .i64 s153.Leader,.int .i64 s153.Epoch,.int .i64 s153.Stamp]) (cs:=[v53,v57,.int .i64 x41.Leader,.int .i64 x41.Epoch,
    .int .i64 x41.Stamp]) (o:=0) (cs':=[v53,v57,.int .i64 s153.Leader,.int .i64 s153.Epoch,
    .int .i64 s153.Stamp]) rfl hv49 rfl hx42 (f0 hS172) hW rfl (qo (n7 hv55) (qo (n7 hv59) (qo rfl (qo rfl (qo rfl zl))))) (nle rfl) rfl
    (fun c183 h181 hv184 hS182=>?_)
  simp only [qa,qn,B0,reduceIte,a7]
  obtain ⟨c185,hv186,hS187⟩:=SlG.cls (e':=(Partition.mk x41.Homes x41.InStep s153.Leader s153.Epoch s153.Stamp)) (c:=c183) (os:=c54++(c58)) hv184 rfl hx42 jl
    (Partition.RI (x:=(Partition.mk x41.Homes x41.InStep s153.Leader s153.Epoch s153.Stamp)) hv55 hv59) (a1d (c1:=c54) (c2:=c58) (f0 (r5 (r5 hS182))))
  have hx188:=k7 (x':=(Partition.mk x41.Homes x41.InStep s153.Leader s153.Epoch s153.Stamp)) hx42
  have hv189:=a1c hv186
  have e190:=qj hk156
  exact hN26 _ _ _ e190.symm ⟨c185,f173,f174,f175,f178,hv189,(i5 (i5 (f8 (i5 (l6 (o6 hS187))))))⟩ (f180) (f179)
 rintro s195 fr198 h199 rfl ⟨c196,f201,f202,f203,f204,hv197,hS200⟩
 dsimp only [jnO] at hk22
 unfold qhj at hk22
 simp only [qh,qf,f202,qm,B0,reduceIte,a7]
 refine qi (v := .agg [pv0_0,pv0_1,.int .i64 c_0.Next]) rfl ?_
 simp only [f203,zk,B0,reduceIte,a7]
 refine zb (us:=[pv0_0,pv0_1,.int .i64 c_0.Next]) rfl (cs':=[pv0_0,pv0_1,
   .int .i64 c_0.Next]) (i5 hS200) hW rfl (qo (n7 ph0_0) (qo (t7 hv197) (qo rfl zl))) (nle rfl) rfl (fun h205 hS206=>?_)
 simp only [qa,q8,B0,reduceIte,a7]
 have he:=qj hk22
 subst he
 refine jk (bb:=b5) (oo:=0) (v := .agg [pv0_0,pv0_1,.int .i64 c_0.Next]) (by simp only [f203,B0,reduceIte,
   a7]) ((zw (l9 _ _ _ hS206)).trans rfl) ?_
 exact ⟨pc0_0,c196,pc1,by first | trivial | rfl,ph0_0,hv197,ph1,(f0 (f0 (l6 (hS206))))⟩
theorem qec {W:Nat→Bool}{h:Heap} (hW:∀ b,
  (geL h.length) b→W b=true) (c_0:Control) (x_1:Command) (r:Control × Int × Bool)
  (hF:yk c_0 x_1=some r) : Ret E W 19 [.agg [lst qe c_0.Brokers,lst qd c_0.Parts,.int .i64 c_0.Next],.agg [.int .i64 x_1.Kind,
  .int .i64 x_1.Broker,.int .i64 x_1.Epoch,.int .i64 x_1.Part,.int .i64 x_1.Stamp,lst cI x_1.InStep]] h (fun v h'=>∃ rv0_0 rc0_0 rv0_1 rc0_1,v = .tup [.agg [rv0_0,rv0_1,
  .int .i64 r.1.Next],.int .i64 r.2.1,
  .bool r.2.2]∧SlF qe 3 86 rv0_0 r.1.Brokers rc0_0∧SlN Partition.R 5 39 rv0_1 r.1.Parts rc0_1∧Sep h' (geL h.length) (rc0_0++(rc0_1++([])))):=by
 refine Ret.of (fn:=x19) rfl (Run.of ?_)
 unfold yk at hF
 have zf0:zj [.agg [lst qe c_0.Brokers,lst qd c_0.Parts,.int .i64 c_0.Next],.agg [.int .i64 x_1.Kind,.int .i64 x_1.Broker,.int .i64 x_1.Epoch,
   .int .i64 x_1.Part,.int .i64 x_1.Stamp,lst cI x_1.InStep]] 0 = .agg [lst qe c_0.Brokers,lst qd c_0.Parts,.int .i64 c_0.Next]:=rfl
 have zf1:zj [.agg [lst qe c_0.Brokers,lst qd c_0.Parts,.int .i64 c_0.Next],.agg [.int .i64 x_1.Kind,.int .i64 x_1.Broker,.int .i64 x_1.Epoch,
   .int .i64 x_1.Part,.int .i64 x_1.Stamp,lst cI x_1.InStep]] 1 = .agg [.int .i64 x_1.Kind,.int .i64 x_1.Broker,.int .i64 x_1.Epoch,.int .i64 x_1.Part,
   .int .i64 x_1.Stamp,lst cI x_1.InStep]:=rfl
 generalize zj [.agg [lst qe c_0.Brokers,lst qd c_0.Parts,.int .i64 c_0.Next],.agg [.int .i64 x_1.Kind,.int .i64 x_1.Broker,.int .i64 x_1.Epoch,
   .int .i64 x_1.Part,.int .i64 x_1.Stamp,lst cI x_1.InStep]]=fr0 at zf0 zf1 ⊢
 have hS:Sep h (geL h.length) []:=a0t h
 simp only [x19,qh,qf,jp,zf0,B0,reduceIte,a7]
 refine jc (cs:=[lst qe c_0.Brokers,lst qd c_0.Parts,.int .i64 c_0.Next]) hS rfl rfl rfl (fun b1 h2 hS3=>?_)
 simp only [jp,zf1,B0,reduceIte,a7]
 refine jc (cs:=[.int .i64 x_1.Kind,.int .i64 x_1.Broker,.int .i64 x_1.Epoch,.int .i64 x_1.Part,.int .i64 x_1.Stamp,
   lst cI x_1.InStep]) hS3 rfl rfl rfl (fun b5 h6 hS7=>?_)
 simp only [z5,B0,reduceIte,a7]
 refine zt hS7 (fun b9 h10 hS11=>?_)
 simp only [qg,qa,B0,reduceIte,a7]
 refine zq (f0 hS11) hW (by simp only [B0,reduceIte,a7]) (fun h13 hS14=>?_)
 refine zq (f8 hS14) hW (by simp only [B0,reduceIte,a7]) (fun h15 hS16=>?_)
 simp only [zp,qs4,qh,qf,qm,B0,reduceIte,a7]
 refine qi (v := .agg [lst qe c_0.Brokers,lst qd c_0.Parts,.int .i64 c_0.Next]) rfl ?_
 obtain ⟨v17,hx18,hF19⟩:=qk hF
 simp only [za,B0,reduceIte,a7]
 refine ja rfl (ql (z4 (ql zn (ql zn (ql qu zd)))) zd) (xl (fun b hb=>decide_eq_true hb) c_0 v17 hx18) ?_
 simp only [je,qb,jt,qg,B0,reduceIte,a7]
 obtain ⟨v23,hx24,hF25⟩:=qk hF19
 refine zr 5 (fun fr' h'=>Sep h' (geL h.length) ([Blk1 b9 [.nil,.nil,.int .i64 0] 29]++([]))∧fr' 20 = .bool v23∧fr' 2 = .ref [lst qe c_0.Brokers,
   lst qd c_0.Parts,.int .i64 c_0.Next] 0∧fr' 3 = .ref [.int .i64 x_1.Kind,.int .i64 x_1.Broker,.int .i64 x_1.Epoch,.int .i64 x_1.Part,.int .i64 x_1.Stamp,
   lst cI x_1.InStep] 0∧fr' 4 = .ptr b9 0) (fun Q20 hN21=>?_) ?_
 ·simp only [d7,e9]
  simp only [qc (g:=15),B0,reduceIte,a7]
  refine qy (t:=(!v17)) (fun hg22=>?_) (fun hg22=>?_)
  ·rw [iteT hg22] at hx24
   simp only [hg22,qc (g:=15),zv,qr,qb,zh,qa,qn,B0,reduceIte,a7]
   have e26:=qj hx24
   exact hN21 _ _ ⟨hS16,by rw [←e26]; simp only [B0,reduceIte,a7],rfl,rfl,rfl⟩
  ·rw [iteF hg22] at hx24
   simp only [hg22,qc (g:=15),qq,qm,B0,reduceIte,a7]
   refine qi (v := .agg [lst qe c_0.Brokers,lst qd c_0.Parts,.int .i64 c_0.Next]) rfl ?_
   simp only [hg22,qc (g:=15),qq,qm,B0,reduceIte,a7]
   refine qi (v := .agg [.int .i64 x_1.Kind,.int .i64 x_1.Broker,.int .i64 x_1.Epoch,.int .i64 x_1.Part,.int .i64 x_1.Stamp,lst cI x_1.InStep]) rfl ?_
   obtain ⟨v27,hx28,hF29⟩:=qk hx24
   simp only [hg22,qc (g:=15),qq,za,B0,reduceIte,a7]
   refine ja rfl (ql (z4 (ql zn (ql zn (ql qu zd)))) (ql (z4 (ql qu (ql qu (ql qu (ql qu
     (ql qu (ql zn zd))))))) zd)) (qjt (fun b hb=>decide_eq_true hb) c_0 x_1 v27 hx28) ?_
   simp only [hg22,qc (g:=15),qq,je,qb,jt,qr,zi,qa,qn,B0,reduceIte,a7]
   have e30:=qj hF29
   exact hN21 _ _ ⟨hS16,by rw [←e30]; simp only [B0,reduceIte,a7],rfl,rfl,rfl⟩
 rintro fr31 h36 ⟨hS37,f32,f33,f34,f35⟩
 simp only [b7,e8]
 simp only [qa,q5f,f32,qz,B0,reduceIte,a7]
 refine qx (t:=v23) (fun hc38=>?_) (fun hc38=>?_)
 ·rw [iteT hc38] at hF25
  simp only [qy1,qh,qf,run_build,evp,B0,reduceIte,a7]
  refine qi (v := .agg [.nil,.nil,.int .i64 0]) rfl ?_
  simp only [f35,zk,B0,reduceIte,a7]
  refine zb (us:=[.nil,.nil,.int .i64 0]) rfl (cs':=[.nil,.nil,.int .i64 0]) hS37 hW rfl rfl (nle rfl) rfl (fun h39 hS40=>?_)
  simp only [qg,qa,q8,B0,reduceIte,a7]
  have he:=qj hF25
  subst he
  refine j8 (ql (kn (bb:=b9) (oo:=0) (v := .agg [.nil,.nil,
    .int .i64 0]) (f35) ((zw (l9 _ _ _ hS40)).trans rfl)) (ql (yl (v := .int .i64 0) (rfl)) (ql (yl (v := .bool false) (rfl)) zd))) ?_
  exact ⟨.nil,[],.nil,[],by first | trivial | rfl,a1l,SlN.nil,((l6 (hS40)) : Sep _ (geL h.length) ([]))⟩
 rw [iteF hc38] at hF25
 simp only [zf,qsh,qh,qf,qg,qa,qrc,f33,qp,qb,a8,a9,b4,qs,qm,B0,reduceIte,
   a7]
 refine qi (v:=lst qd c_0.Parts) rfl ?_
 simp only [zx,qb,z1,qg,qa,B0,reduceIte,a7]
 obtain ⟨oc53,hX55,hk56⟩:=jo hF25
 simp only [q0d]
 refine ku (σ:=(List Int)) c_0.Parts (fun i51 x52 s100=>uf i51 x52 s100) (fun s fr' h'=>∃ v48 c49,fr' 2 = .ref [lst qe c_0.Brokers,
   lst qd c_0.Parts,.int .i64 c_0.Next] 0∧fr' 3 = .ref [.int .i64 x_1.Kind,.int .i64 x_1.Broker,.int .i64 x_1.Epoch,.int .i64 x_1.Part,.int .i64 x_1.Stamp,
   lst cI x_1.InStep] 0∧fr' 4 = .ptr b9 0∧fr' 7=v48∧fr' 23=lst qd c_0.Parts∧SlF cI 1 3 v48 s c49∧Sep h' (geL h.length) ([Blk1 b9 [.nil,.nil,
   .int .i64 0] 29]++(c49++([])))) hX55 ⟨.nil,[],f33,f34,f35,rfl,rfl,a1l,(hS37:Sep _ (geL h.length) ([Blk1 b9 [.nil,.nil,
   .int .i64 0] 29]++([])))⟩ (by simp only [B0,reduceIte,a7]) (by simp only [B0,reduceIte,
   a7]) (fun _ _ _ h=>h) rfl rfl (fun _ _ _ _ h=>h) (fun _ _ _ _ h=>h) (fun _ _ _ _ h=>h) (by decide) ?_ ?_
 ·rintro i51 x52 s46 fr65 h66 hx73 ⟨v48,c49,f68,f69,f70,f71,f72,hv50,hS67⟩ f74 f75 oc54 hF57 hr58 Q59 hN60 hB64 hK61 hR62 hE63
  unfold uf at hF57
  simp only [q2w,qh,qf,f72,f74,jf,B0,reduceIte,a7]
  refine qi (v := .ref (qd x52) 0) (kt hx73 rfl) ?_
  simp only [qm,B0,reduceIte,a7]
  refine qi (v := .agg [lst cI x52.Homes,lst cI x52.InStep,.int .i64 x52.Leader,.int .i64 x52.Epoch,.int .i64 x52.Stamp]) rfl ?_
  simp only [z5,B0,reduceIte,a7]
  refine zt hS67 (fun b76 h77 hS78=>?_)
  simp only [zk,B0,reduceIte,a7]
  refine zb (us:=[lst cI x52.Homes,lst cI x52.InStep,.int .i64 x52.Leader,.int .i64 x52.Epoch,.int .i64 x52.Stamp]) rfl (cs':=[lst cI x52.Homes,
    lst cI x52.InStep,.int .i64 x52.Leader,.int .i64 x52.Epoch,.int .i64 x52.Stamp]) hS78 hW rfl rfl (nle rfl) rfl (fun h80 hS81=>?_)
  simp only [qa,B0,reduceIte,a7]
  refine zq hS81 hW (by simp only [B0,reduceIte,a7]) (fun h82 hS83=>?_)
  simp only [zp,q1q,qf,f71,qg,qp,qb,a8,a9,b4,qs,qm,B0,reduceIte,a7]
  refine qi (v := .int .i64 x52.Leader) rfl ?_
  simp only [j0,evp,B0,reduceIte,a7]
  refine ju (n:=1) (f:=cI) [x52.Leader] hS83 rfl rfl (fun v84 c85 h86 hv87 hS88=>?_)
  simp only [wz,B0,reduceIte,a7]
  obtain ⟨l90,hx91,hF92⟩:=qk hF57
  refine yx (f:=cI) hv50 (f0 hS88) hW (fun _=>rfl) (fun _=>rfl) (a2g hv87 hS88 (fun _=>rfl)) hx91 (fun v93 c94 h95 hv96 hS97=>?_)
  simp only [qg,qa,qn,B0,reduceIte,a7]
  have e99:=qj hF92
  exact hN60 _ _ _ e99.symm ⟨v93,c94,f68,f69,f70,rfl,f72,hv96,(f8 (l6 (f8 hS97)))⟩ (f74) (f75)
 rintro s101 fr106 h107 rfl ⟨v103,c104,f109,f110,f111,f112,f113,hv105,hS108⟩
 dsimp only [jnO] at hk56
 unfold qdp at hk56
 simp only [qvr,qh,ji,qnc,B0,reduceIte,a7]
 refine qin hS108 (fun b114 h115 hS116=>?_)
 simp only [f109,z2,B0,reduceIte,a7]
 refine zc (v := .agg [lst qe c_0.Brokers,lst qd c_0.Parts,.int .i64 c_0.Next]) rfl ?_
 obtain ⟨v118,hx119,hF120⟩:=qk hk56
 simp only [qa1,B0,reduceIte,a7]
 refine q88 rfl hS116 (ql (z4 (ql zn (ql zn (ql qu zd)))) zd) (qge (fun b hb=>decide_eq_true hb) c_0 v118 hx119) ?_
 rintro _ h129 ⟨v121,c122,v125,c126,rfl,hv123,hv127,hS130⟩
 refine ⟨_,qeu (qo (a0k hv123) (qo (a01 hv127) (qo rfl zl))),hS130,
   (jg (a1n hv123 (fun _=>rfl)) (jg (a2d hv127 Partition.RO) ye)),fun h131 hS132=>?_⟩
 have hS133:Sep h131 (geL h.length) (c122++(c126++([Blk1 b114 [.nil,.nil,.int .i64 0] 29]++([Blk1 b9 [.nil,.nil,
   .int .i64 0] 29]++(c104++([])))))):=by simpa only [f6,o8] using hS132
 simp only [f110,qbc,qci,B0,reduceIte,a7]
 refine zc (v := .agg [.int .i64 x_1.Kind,.int .i64 x_1.Broker,.int .i64 x_1.Epoch,.int .i64 x_1.Part,.int .i64 x_1.Stamp,lst cI x_1.InStep]) rfl ?_
 obtain ⟨v134,hx135,hF136⟩:=qk hF120
 simp only [xx,B0,reduceIte,a7]
 refine qwq rfl (qmw hW v118 v121 c122 hv123 v125 c126 hv127 x_1 v134 hx135 (f8 (f8 hS133))) ?_
 rintro _ h143 ⟨c137,v139,c140,rfl,hv138,hv141,hS144⟩
 simp only [jm,qt,q9s,y6,zae,y8,uy,B0,reduceIte,a7]
 refine qay (us:=[v121,v139,.int .i64 v134.1.Next]) rfl (cs':=[v121,v139,
   .int .i64 v134.1.Next]) (f0 hS144) hW rfl (qo (n7 hv138) (qo (t7 hv141) (qo rfl zl))) (nle rfl) rfl (fun h145 hS146=>?_)
 simp only [jm,qt,zm,qvg,qh,qf,qg,qv,qb,z8,qa,q0j,qz,B0,reduceIte,a7]
 obtain ⟨sv158,hX156,hk157⟩:=qk hF136
 refine ue (t:=(decide (v134.2=0))) (fun fr' h'=>∃ c150 c153,fr' 2 = .ref [lst qe c_0.Brokers,lst qd c_0.Parts,
   .int .i64 c_0.Next] 0∧fr' 4 = .ptr b9 0∧fr' 10 = .ptr b114 0∧fr' 11 = .int .i64 sv158.1∧SlF qe 3 86 v121 sv158.2.2.1 c150∧SlN Partition.R 5 39 v139 sv158.2.2.2 c153∧Sep h'
   (geL h.length) ([Blk1 b9 [.nil,.nil,.int .i64 0] 29]++([Blk1 b114 [v121,v139,
   .int .i64 sv158.2.1.Next] 29]++(c150++(c153++([])))))) (fun Q159 hN160 hR161 hE162=>⟨fun hc163=>?_,fun hc163=>?_⟩) ?_
 ·rw [iteT hc163] at hX156
  simp only [q3j,qh,qf,qm,B0,reduceIte,a7]
  refine qi (v := .agg [v121,v139,.int .i64 v134.1.Next]) ((zw (l9 _ _ _ hS146)).trans rfl) ?_
  obtain ⟨v164,hx165,hF166⟩:=qk hX156
  simp only [f112,qg,za,B0,reduceIte,a7]
  refine kp rfl (qlq hW v134.1 v121 c137 hv138 v139 c140 hv141 v103 c104 s101 hv105 v164 hx165 (i5 (i5 (o6 hS146)))) ?_
  rintro _ h173 ⟨c167,c169,c171,rfl,hv168,hv170,hv172,hS174⟩
  simp only [zk,B0,reduceIte,a7]
  refine zb (us:=[v121,v139,.int .i64 v164.1.Next]) rfl (cs':=[v121,v139,
    .int .i64 v164.1.Next]) (i5 hS174) hW rfl (qo (n7 hv168) (qo (t7 hv170) (qo rfl zl))) (nle rfl) rfl (fun h175 hS176=>?_)
  simp only [qa,q2q,qh,qf,qm,B0,reduceIte,a7]
  refine qi (v := .agg [v121,v139,.int .i64 v164.1.Next]) ((zw (l9 _ _ _ hS176)).trans rfl) ?_
  obtain ⟨v177,hx178,hF179⟩:=qk hF166
  simp only [za,B0,reduceIte,a7]
  refine ja rfl (ql (z4 (ql (a0g hv168 (f8 hS176) rfl (fun _=>rfl) (fun _=>rfl)) (ql (a09 hv170 _ (f0 hS176) rfl Partition.RO)
    (ql qu zd)))) zd) (xl (fun b hb=>decide_eq_true hb) v164.1 v177 hx178) ?_
  simp only [je,qb,jt,qa,qz,B0,reduceIte,a7]
  refine qx (t:=(!v177)) (fun hc180=>?_) (fun hc180=>?_)
  ·rw [iteT hc180] at hF179
   simp only [qf,qg,qa,qn,B0,reduceIte,a7]
   have e181:=qj hF179
   subst e181
   exact hN160 _ _ ⟨c167,c169,f109,f111,rfl,rfl,hv168,hv170,(i5 (f0 (f0 (f0 (l6 (i5 hS176))))))⟩
  rw [iteF hc180] at hF179
  simp only [zf,qn,B0,reduceIte,a7]
  have e182:=qj hF179
  subst e182
  exact hN160 _ _ ⟨c167,c169,f109,f111,rfl,rfl,hv168,hv170,(i5 (f0 (f0 (f0 (l6 (i5 hS176))))))⟩
 ·rw [iteF hc163] at hX156
  simp only [zf,qn,B0,reduceIte,a7]
  have e183:=qj hX156
  subst e183
  exact hN160 _ _ ⟨c137,c140,f109,f111,rfl,rfl,hv138,hv141,(i5 (f0 (f0 (f0 (l6 (o6 hS146))))))⟩
 rintro fr184 h185 ⟨c150,c153,f187,f188,f189,f190,hv151,hv154,hS186⟩
 obtain ⟨s147,s148,s149,s152⟩:=sv158
 dsimp only at *
 unfold qar at hk157
 simp only [qwe,qh,qf,f190,qg,qv,qb,wm,qa,qxh,qz,B0,reduceIte,a7]
 refine qx (t:=(decide (s147≠0))) (fun hc191=>?_) (fun hc191=>?_)
 ·rw [iteT hc191] at hk157
  simp only [qwc,qh,qf,f187,qm,B0,reduceIte,a7]
  refine qi (v := .agg [lst qe c_0.Brokers,lst qd c_0.Parts,.int .i64 c_0.Next]) rfl ?_
  obtain ⟨v192,hx193,hF194⟩:=qk hk157
  simp only [za,B0,reduceIte,a7]
  refine wq rfl hS186 (ql (z4 (ql zn (ql zn (ql qu zd)))) zd) (qge (fun b hb=>decide_eq_true hb) c_0 v192 hx193) ?_
  rintro _ h203 ⟨v195,c196,v199,c200,rfl,hv197,hv201,hS204⟩
  refine ⟨_,qeu (qo (a0k hv197) (qo (a01 hv201) (qo rfl zl))),hS204,
    (jg (a1n hv197 (fun _=>rfl)) (jg (a2d hv201 Partition.RO) ye)),fun h205 hS206=>?_⟩
  have hS207:Sep h205 (geL h.length) (c196++(c200++([Blk1 b9 [.nil,.nil,.int .i64 0] 29]++([Blk1 b114 [v121,v139,
    .int .i64 s148.Next] 29]++(c150++(c153++([]))))))):=by simpa only [f6,o8] using hS206
  simp only [f190,qg,f188,zk,B0,reduceIte,a7]
  refine zb (us:=[v195,v199,.int .i64 v192.Next]) rfl (cs':=[v195,v199,
    .int .i64 v192.Next]) (f0 hS207) hW rfl (qo (n7 hv197) (qo (t7 hv201) (qo rfl zl))) (nle rfl) rfl (fun h208 hS209=>?_)
  simp only [qg,qa,q8,B0,reduceIte,a7]
  have he:=qj hF194
  subst he
  refine j8 (ql (kn (bb:=b9) (oo:=0) (v := .agg [v195,v199,
    .int .i64 v192.Next]) (f188) ((zw (l9 _ _ _ hS209)).trans rfl)) (ql (yl (v := .int .i64 s147) (rfl)) (ql (yl (v := .bool true) (rfl)) zd))) ?_
  exact ⟨v195,c196,v199,c200,by first | trivial | rfl,hv197,hv201,(f8 (f8 (l6 (f0 (l6 (f0 (l6 (f0 (l6 (hS209))))))))))⟩
 rw [iteF hc191] at hk157
 simp only [zf,qtu,qh,qf,f189,qm,B0,reduceIte,a7]
 refine qi (v := .agg [v121,v139,.int .i64 s148.Next]) ((zw (l9 _ _ _ (f8 hS186))).trans rfl) ?_
 obtain ⟨v210,hx211,hF212⟩:=qk hk157
 simp only [za,B0,reduceIte,a7]
 refine wq rfl hS186 (ql (z4 (ql (a0g hv151 (f0 hS186) rfl (fun _=>rfl) (fun _=>rfl)) (ql (a09 hv154 _ (i5 hS186) rfl Partition.RO)
   (ql qu zd)))) zd) (qge (fun b hb=>decide_eq_true hb) (Control.mk s149 s152 s148.Next) v210 hx211) ?_
 rintro _ h221 ⟨v213,c214,v217,c218,rfl,hv215,hv219,hS222⟩
 refine ⟨_,qeu (qo (a0k hv215) (qo (a01 hv219) (qo rfl zl))),hS222,
   (jg (a1n hv215 (fun _=>rfl)) (jg (a2d hv219 Partition.RO) ye)),fun h223 hS224=>?_⟩
 have hS225:Sep h223 (geL h.length) (c214++(c218++([Blk1 b9 [.nil,.nil,.int .i64 0] 29]++([Blk1 b114 [v121,v139,
   .int .i64 s148.Next] 29]++(c150++(c153++([]))))))):=by simpa only [f6,o8] using hS224
 simp only [f188,zk,B0,reduceIte,a7]
 refine zb (us:=[v213,v217,.int .i64 v210.Next]) rfl (cs':=[v213,v217,
   .int .i64 v210.Next]) (f0 hS225) hW rfl (qo (n7 hv215) (qo (t7 hv219) (qo rfl zl))) (nle rfl) rfl (fun h226 hS227=>?_)
 simp only [qg,qa,q8,B0,reduceIte,a7]
 have he:=qj hF212
 subst he
 refine j8 (ql (kn (bb:=b9) (oo:=0) (v := .agg [v213,v217,
   .int .i64 v210.Next]) (f188) ((zw (l9 _ _ _ hS227)).trans rfl)) (ql (yl (v := .int .i64 0) (rfl)) (ql (yl (v := .bool true) (rfl)) zd))) ?_
 exact ⟨v213,c214,v217,c218,by first | trivial | rfl,hv215,hv219,(f8 (f8 (l6 (f0 (l6 (f0 (l6 (f0 (l6 (hS227))))))))))⟩
theorem qap {W:Nat→Bool}{h:Heap} (hW:∀ b,
  (geL h.length) b→W b=true) (k:Nat) (brokers_0:Int) (r:Control × Bool) (hF:j7 k brokers_0=some r) : Ret E W 28 [.int .i64 brokers_0] h
  (fun v h'=>∃ rv0_0 rc0_0 rv0_1 rc0_1,v = .tup [.agg [rv0_0,rv0_1,.int .i64 r.1.Next],
  .bool r.2]∧SlF qe 3 86 rv0_0 r.1.Brokers rc0_0∧SlN Partition.R 5 39 rv0_1 r.1.Parts rc0_1∧Sep h' (geL h.length) (rc0_0++(rc0_1++([])))):=by
 refine Ret.of (fn:=x28) rfl (Run.of ?_)
 unfold j7 at hF
 have zf0:zj [.int .i64 brokers_0] 0 = .int .i64 brokers_0:=rfl
 generalize zj [.int .i64 brokers_0]=fr0 at zf0 ⊢
 have hS:Sep h (geL h.length) []:=a0t h
 simp only [x28,qh,qf,z5,B0,reduceIte,a7]
 refine zt hS (fun b1 h2 hS3=>?_)
 simp only [qg,qa,q5t,qh,qf,zf0,za,B0,reduceIte,a7]
 refine ja rfl (ql qu (ql qu (ql qu zd))) (w5 (fun b hb=>decide_eq_true hb) brokers_0 1 6 _ rfl) ?_
 simp only [je,qb,jt,qa,q1m,qz,B0,reduceIte,a7]
 refine qx (t:=(!(zu brokers_0 1 6))) (fun hc5=>?_) (fun hc5=>?_)
 ·rw [iteT hc5] at hF
  simp only [qh,qf,run_build,evp,B0,reduceIte,a7]
  refine qi (v := .agg [.nil,.nil,.int .i64 0]) rfl ?_
  simp only [zk,B0,reduceIte,a7]
  refine zb (us:=[.nil,.nil,.int .i64 0]) rfl (cs':=[.nil,.nil,.int .i64 0]) hS3 hW rfl rfl (nle rfl) rfl (fun h6 hS7=>?_)
  simp only [qg,qa,q8,B0,reduceIte,a7]
  have he:=qj hF
  subst he
  refine j8 (ql (kn (bb:=b1) (oo:=0) (v := .agg [.nil,.nil,
    .int .i64 0]) (rfl) ((zw (l9 _ _ _ hS7)).trans rfl)) (ql (yl (v := .bool false) (rfl)) zd)) ?_
  exact ⟨.nil,[],.nil,[],by first | trivial | rfl,a1l,SlN.nil,((l6 (hS7)) : Sep _ (geL h.length) ([]))⟩
 rw [iteF hc5] at hF
 simp only [zf,q1x,qh,qf,run_build,evp,B0,reduceIte,a7]
 refine qi (v := .agg [.nil,.nil,.int .i64 1]) rfl ?_
 simp only [z5,B0,reduceIte,a7]
 refine zt hS3 (fun b8 h9 hS10=>?_)
 simp only [zk,B0,reduceIte,a7]
 refine zb (us:=[.nil,.nil,.int .i64 1]) rfl (cs':=[.nil,.nil,.int .i64 1]) hS10 hW rfl rfl (nle rfl) rfl (fun h12 hS13=>?_)
 simp only [qa,q1f,qh,qf,qg,B0,reduceIte,a7]
 obtain ⟨oc28,hX30,hk31⟩:=jo hF
 simp only [q4c]
 refine qlk (σ:=Int × Control) (fun s68=>qab brokers_0 s68.1 s68.2) (fun s fr' h'=>∃ v23 c24,
   fr' 0 = .int .i64 brokers_0∧fr' 2 = .ptr b1 0∧fr' 4 = .ptr b8 0∧fr' 5 = .int .i64 s.1∧SlF qe 3 86 v23 s.2.Brokers c24∧Sep h' (geL h.length)
   ([Blk1 b1 [.nil,.nil,.int .i64 0] 29]++([Blk1 b8 [v23,.nil,.int .i64 s.2.Next] 29]++(c24++([]))))) hX30 ⟨.nil,[],zf0,rfl,rfl,rfl,a1l,
   ((f8 hS13) : Sep _ (geL h.length) ([Blk1 b1 [.nil,.nil,.int .i64 0] 29]++([Blk1 b8 [.nil,.nil,.int .i64 1] 29]++([]))))⟩ (fun _ _ _ h=>h) ?_ ?_
 ·rintro ⟨s20,s21⟩ fr40 h41 ⟨v23,c24,f43,f44,f45,f46,hv25,hS42⟩ oc29 hF32 hr33 Q34 hN35 hK36 hR37 hE38
  dsimp only at *
  unfold qab at hF32
  simp only [q0v,qh,qf,f46,qg,f43,qv,qb,qfi,qa,qz,B0,reduceIte,a7]
  refine qx (t:=(decide (s20<brokers_0))) (fun hc48=>?_) (fun hc48=>?_)
  ·rw [iteT hc48] at hF32
   simp only [zf,q2e,qh,wi,qz4,qf,f45,qp,qb,a8,a9,b4,q9,qm,B0,reduceIte,
     a7]
   refine qi (v:=v23) ((z6 (l9 _ _ _ (f8 hS42))).trans rfl) ?_
   simp only [run_build,evp,B0,reduceIte,a7]
   refine qi (v := .agg [.int .i64 0,.int .i64 0,.bool true]) rfl ?_
   simp only [j0,evp,B0,reduceIte,a7]
   refine ju (n:=3) (f:=qe) [(Broker.mk 0 0 true)] hS42 rfl rfl (fun v49 c50 h51 hv52 hS53=>?_)
   simp only [wz,B0,reduceIte,a7]
   obtain ⟨l55,hx56,hF57⟩:=qk hF32
   refine yx (f:=qe) hv25 (i5 hS53) hW (fun _=>rfl) (fun _=>rfl) (a2g hv52 hS53 (fun _=>rfl)) hx56 (fun v58 c59 h60 hv61 hS62=>?_)
   simp only [f45,qp,qb,a8,a9,b4,q9,zk,B0,reduceIte,a7]
   refine zb (us:=[v58]) (kw (n7 hv61)) (cs':=[v58,.nil,
     .int .i64 s21.Next]) (i5 hS62) hW rfl (qo (n7 hv61) zl) (nle rfl) rfl (fun h64 hS65=>?_)
   simp only [qa,ki,qf,f46,qg,qv,qb,qal,qn,B0,reduceIte,a7]
   have e66:=qj hF57
   exact hN35 _ _ _ e66.symm ⟨v58,c59,f43,f44,f45,rfl,hv61,(f0 (f8 (f8 (l6 (f0 hS65)))))⟩
  rw [iteF hc48] at hF32
  simp only [qiq,qg9,qh2,B0,reduceIte,a7]
  have e67:=qj hF32
  exact hK36 _ _ _ e67.symm ⟨v23,c24,f43,f44,f45,f46,hv25,(f0 (f0 (f0 hS42)))⟩
 rintro ⟨s69,s70⟩ fr75 h76 rfl ⟨v72,c73,f78,f79,f80,f81,hv74,hS77⟩
 dsimp only [jnO] at hk31
 dsimp only at *
 unfold qgc at hk31
 simp only [qh,qf,f80,qm,B0,reduceIte,a7]
 refine qi (v := .agg [v72,.nil,.int .i64 s70.Next]) ((zw (l9 _ _ _ (f8 hS77))).trans rfl) ?_
 simp only [f79,zk,B0,reduceIte,a7]
 refine zb (us:=[v72,.nil,.int .i64 s70.Next]) rfl (cs':=[v72,.nil,
   .int .i64 s70.Next]) hS77 hW rfl (qo (n7 hv74) (qo rfl (qo rfl zl))) (nle rfl) rfl (fun h82 hS83=>?_)
 simp only [qg,qa,q8,B0,reduceIte,a7]
 have he:=qj hk31
 subst he
 refine j8 (ql (kn (bb:=b1) (oo:=0) (v := .agg [v72,.nil,
   .int .i64 s70.Next]) (f79) ((zw (l9 _ _ _ hS83)).trans rfl)) (ql (yl (v := .bool true) (rfl)) zd)) ?_
 exact ⟨v72,c73,.nil,[],by first | trivial | rfl,hv74,SlN.nil,((l6 ((l6 (hS83)))) : Sep _ (geL h.length) (c73++([])))⟩
theorem qfc {W:Nat→Bool}{h:Heap} (hW:∀ b,
  (geL h.length) b→W b=true) (k:Nat) (brokers_0:Int) (l_1:List Command) (r:Control × (List Int) × Bool)
  (hF:yy k brokers_0 l_1=some r) : Ret E W 9 [.int .i64 brokers_0,lst w8 l_1] h (fun v h'=>∃ rv0_0 rc0_0 rv0_1 rc0_1 rv1 rc1,
  v = .tup [.agg [rv0_0,rv0_1,.int .i64 r.1.Next],rv1,
  .bool r.2.2]∧SlF qe 3 86 rv0_0 r.1.Brokers rc0_0∧SlN Partition.R 5 39 rv0_1 r.1.Parts rc0_1∧SlF cI 1 3 rv1 r.2.1 rc1∧Sep h' (geL h.length) (rc0_0 ++
  (rc0_1++(rc1++([]))))):=by
 refine Ret.of (fn:=x9) rfl (Run.of ?_)
 unfold yy at hF
 have zf0:zj [.int .i64 brokers_0,lst w8 l_1] 0 = .int .i64 brokers_0:=rfl
 have zf1:zj [.int .i64 brokers_0,lst w8 l_1] 1=lst w8 l_1:=rfl
 generalize zj [.int .i64 brokers_0,lst w8 l_1]=fr0 at zf0 zf1 ⊢
 have hS:Sep h (geL h.length) []:=a0t h
 simp only [x9,qh,qf,z5,B0,reduceIte,a7]
 refine zt hS (fun b1 h2 hS3=>?_)
 obtain ⟨v5,hx6,hF7⟩:=qk hF
 simp only [qg,qa,q5m,qh,qf,zf0,za,B0,reduceIte,a7]
 refine wq rfl hS3 (ql qu zd) (qap (fun b hb=>decide_eq_true hb) k brokers_0 v5 hx6) ?_
 rintro _ h16 ⟨v8,c9,v12,c13,rfl,hv10,hv14,hS17⟩
 refine ⟨_,u6 (qo (uj (qo (a0k hv10) (qo (a01 hv14) (qo rfl zl)))) (qo rfl zl)),hS17,
   (jg (a1n hv10 (fun _=>rfl)) (jg (a2d hv14 Partition.RO) ye)),fun h18 hS19=>?_⟩
 have hS20:Sep h18 (geL h.length) (c9++(c13++([Blk1 b1 [.nil,.nil,.int .i64 0] 29]++([])))):=by simpa only [f6,o8] using hS19
 simp only [qg,yi,qb,y6,y8,z5,B0,reduceIte,a7]
 refine zt hS20 (fun b21 h22 hS23=>?_)
 simp only [zk,B0,reduceIte,a7]
 refine zb (us:=[v8,v12,.int .i64 v5.1.Next]) rfl (cs':=[v8,v12,
   .int .i64 v5.1.Next]) hS23 hW rfl (qo (n7 hv10) (qo (t7 hv14) (qo rfl zl))) (nle rfl) rfl (fun h25 hS26=>?_)
 simp only [qg,qa,q5a,qh,qf,je,qb,jt,B0,reduceIte,a7]
 refine zr 4 (fun fr' h'=>Sep h' (geL h.length) ([Blk1 b1 [.nil,.nil,.int .i64 0] 29]++([Blk1 b21 [v8,v12,
   .int .i64 v5.1.Next] 29]++(c9++(c13++([])))))∧fr' 26 = .bool ((!v5.2)||(decide ((80:Int) <
   (b6 l_1:Int))))∧fr' 1=lst w8 l_1∧fr' 4 = .ptr b1 0∧fr' 7 = .ptr b21 0) (fun Q27 hN28=>?_) ?_
 ·simp only [d7,e9]
  simp only [qc (g:=22),B0,reduceIte,a7]
  refine qy (t:=(!v5.2)) (fun hg29=>?_) (fun hg29=>?_)
  ·simp only [hg29,qc (g:=22),zv,qr,qb,zh,qa,qn,B0,reduceIte,a7]
   exact hN28 _ _ ⟨(i5 (f0 (f0 (f0 hS26)))),by rw [orT hg29]; simp only [B0,reduceIte,a7],zf1,rfl,rfl⟩
  ·simp only [hg29,qc (g:=22),qq,zf1,qg,zx,qb,z1,qv,qc7,qr,zi,qa,qn,B0,reduceIte,
    a7]
   exact hN28 _ _ ⟨(i5 (f0 (f0 (f0 hS26)))),by rw [orF hg29]; simp only [B0,reduceIte,a7],zf1,rfl,rfl⟩
 rintro fr30 h35 ⟨hS36,f31,f32,f33,f34⟩
 simp only [b7,e8]
 simp only [qa,zai,f31,qz,B0,reduceIte,a7]
 refine qx (t:=((!v5.2)||(decide ((80:Int)<(b6 l_1:Int))))) (fun hc37=>?_) (fun hc37=>?_)
 ·rw [iteT hc37] at hF7
  simp only [q9e,qh,qf,run_build,evp,B0,reduceIte,a7]
  refine qi (v := .agg [.nil,.nil,.int .i64 0]) rfl ?_
  simp only [f33,zk,B0,reduceIte,a7]
  refine zb (us:=[.nil,.nil,.int .i64 0]) rfl (cs':=[.nil,.nil,.int .i64 0]) hS36 hW rfl rfl (nle rfl) rfl (fun h38 hS39=>?_)
  simp only [qg,qa,q8,B0,reduceIte,a7]
  have he:=qj hF7
  subst he
  refine j8 (ql (kn (bb:=b1) (oo:=0) (v := .agg [.nil,.nil,
    .int .i64 0]) (f33) ((zw (l9 _ _ _ hS39)).trans rfl)) (ql (yl (v := .nil) (rfl)) (ql (yl (v := .bool false) (rfl)) zd))) ?_
  exact ⟨.nil,[],.nil,[],.nil,[],by first | trivial | rfl,a1l,SlN.nil,a1l,((l6 ((l6 ((l6 ((l6 (hS39)))))))) : Sep _ (geL h.length) ([]))⟩
 rw [iteF hc37] at hF7
 simp only [zf,q7j,qh,qf,qg,qa,q2o,f32,zx,qb,z1,B0,reduceIte,a7]
 obtain ⟨oc70,hX72,hk73⟩:=jo hF7
 simp only [q3s]
 refine ku (σ:=(List Int) × Control) l_1 (fun i68 x69 s148=>ud i68 x69 s148.1 s148.2) (fun s fr' h'=>∃ v56 c57 v61 c62 v65 c66,
   fr' 4 = .ptr b1 0∧fr' 7 = .ptr b21 0∧fr' 9=v56∧fr' 28=lst w8 l_1∧SlF cI 1 3 v56 s.1 c57∧SlF qe 3 86 v61 s.2.Brokers c62∧SlN Partition.R 5 39 v65 s.2.Parts c66∧Sep h'
   (geL h.length) ([Blk1 b1 [.nil,.nil,.int .i64 0] 29]++([Blk1 b21 [v61,v65,.int .i64 s.2.Next] 29]++(c57++(c62++(c66++([]))))))) hX72 ⟨.nil,[],v8,c9,v12,
   c13,f33,f34,rfl,rfl,a1l,hv10,hv14,((i5 (i5 (i5 (i5 hS36)))) : Sep _ (geL h.length) ([Blk1 b1 [.nil,.nil,.int .i64 0] 29]++([Blk1 b21 [v8,
   v12,.int .i64 v5.1.Next] 29]++(c9++(c13++([]))))))⟩ (by simp only [B0,reduceIte,a7]) (by simp only [B0,reduceIte,
   a7]) (fun _ _ _ h=>h) rfl rfl (fun _ _ _ _ h=>h) (fun _ _ _ _ h=>h) (fun _ _ _ _ h=>h) (by decide) ?_ ?_
 ·rintro i68 x69 ⟨s54,s59⟩ fr82 h83 hx89 ⟨v56,c57,v61,c62,v65,c66,f85,f86,f87,f88,hv58,hv63,hv67,hS84⟩ f90 f91 oc71 hF74 hr75 Q76 hN77 hB81 hK78 hR79 hE80
  dsimp only at *
  unfold ud at hF74
  simp only [zac,qh,qf,f88,f90,jf,B0,reduceIte,a7]
  refine qi (v := .ref (w8 x69) 0) (kt hx89 rfl) ?_
  simp only [qm,B0,reduceIte,a7]
  refine qi (v := .agg [.int .i64 x69.Kind,.int .i64 x69.Broker,.int .i64 x69.Epoch,.int .i64 x69.Part,.int .i64 x69.Stamp,lst cI x69.InStep]) rfl ?_
  simp only [z5,B0,reduceIte,a7]
  refine zt hS84 (fun b92 h93 hS94=>?_)
  simp only [zk,B0,reduceIte,a7]
  refine zb (us:=[.int .i64 x69.Kind,.int .i64 x69.Broker,.int .i64 x69.Epoch,.int .i64 x69.Part,.int .i64 x69.Stamp,
    lst cI x69.InStep]) rfl (cs':=[.int .i64 x69.Kind,.int .i64 x69.Broker,.int .i64 x69.Epoch,.int .i64 x69.Part,.int .i64 x69.Stamp,
    lst cI x69.InStep]) hS94 hW rfl rfl (nle rfl) rfl (fun h96 hS97=>?_)
  simp only [qa,B0,reduceIte,a7]
  refine zq hS97 hW (by simp only [B0,reduceIte,a7]) (fun h98 hS99=>?_)
  simp only [zp,q83,qh,qf,f86,qm,B0,reduceIte,a7]
  refine qi (v := .agg [v61,v65,.int .i64 s59.Next]) ((zw (l9 _ _ _ (f8 hS99))).trans rfl) ?_
  simp only [qm,B0,reduceIte,a7]
  refine qi (v := .agg [.int .i64 x69.Kind,.int .i64 x69.Broker,.int .i64 x69.Epoch,.int .i64 x69.Part,.int .i64 x69.Stamp,lst cI x69.InStep]) rfl ?_
  obtain ⟨v100,hx101,hF102⟩:=qk hF74
  simp only [za,B0,reduceIte,a7]
  refine wq rfl hS99 (ql (z4 (ql (a0g hv63 (i5 hS99) rfl (fun _=>rfl) (fun _=>rfl)) (ql (a09 hv67 _ (o6 hS99) rfl Partition.RO)
    (ql qu zd)))) (ql (z4 (ql qu (ql qu (ql qu (ql qu (ql qu (ql zn zd))))))) zd))
    (qec (fun b hb=>decide_eq_true hb) s59 x69 v100 hx101) ?_
  rintro _ h111 ⟨v103,c104,v107,c108,rfl,hv105,hv109,hS112⟩
  refine ⟨_,u6 (qo (uj (qo (a0k hv105) (qo (a01 hv109) (qo rfl zl)))) (qo rfl (qo rfl zl))),hS112,
    (jg (a1n hv105 (fun _=>rfl)) (jg (a2d hv109 Partition.RO) ye)),fun h113 hS114=>?_⟩
  have hS115:Sep h113 (geL h.length) (c104++(c108++([Blk1 b1 [.nil,.nil,.int .i64 0] 29]++([Blk1 b21 [v61,v65,
    .int .i64 s59.Next] 29]++(c57++(c62++(c66++([])))))))):=by simpa only [f6,o8] using hS114
  simp only [qg,yi,qb,y6,y8,qgx,z5,B0,reduceIte,a7]
  refine zt hS115 (fun b116 h117 hS118=>?_)
  simp only [zk,B0,reduceIte,a7]
  refine zb (us:=[v103,v107,.int .i64 v100.1.Next]) rfl (cs':=[v103,v107,
    .int .i64 v100.1.Next]) hS118 hW rfl (qo (n7 hv105) (qo (t7 hv109) (qo rfl zl))) (nle rfl) rfl (fun h120 hS121=>?_)
  simp only [qg,qa,B0,reduceIte,a7]
  refine zq hS121 hW (by simp only [B0,reduceIte,a7]) (fun h122 hS123=>?_)
  simp only [zp,q97,qh,qf,qg,je,qb,jt,qa,q9y,qz,B0,reduceIte,a7]
  refine qx (t:=(!v100.2.2)) (fun hc124=>?_) (fun hc124=>?_)
  ·rw [iteT hc124] at hF102
   simp only [q9f,qh,qf,run_build,evp,B0,reduceIte,a7]
   refine qi (v := .agg [.nil,.nil,.int .i64 0]) rfl ?_
   simp only [f85,zk,B0,reduceIte,a7]
   refine zb (us:=[.nil,.nil,.int .i64 0]) rfl (cs':=[.nil,.nil,.int .i64 0]) (f0 hS123) hW rfl rfl (nle rfl) rfl (fun h125 hS126=>?_)
   simp only [qg,qa,q8,B0,reduceIte,a7]
   have e127:=qj hF102
   subst e127
   have ho128:=hr75 _ rfl
   have hk129:=hk73
   rw [ho128] at hk129
   dsimp only [jnO] at hk129
   apply hR79
   have he:=qj hk129
   subst he
   refine j8 (ql (kn (bb:=b1) (oo:=0) (v := .agg [.nil,.nil,
     .int .i64 0]) (f85) ((zw (l9 _ _ _ hS126)).trans rfl)) (ql (yl (v := .nil) (rfl)) (ql (yl (v := .bool false) (rfl)) zd))) ?_
   exact ⟨.nil,[],.nil,[],.nil,[],by first | trivial | rfl,a1l,SlN.nil,a1l,
     ((l6 ((l6 ((l6 ((l6 ((l6 ((l6 ((l6 (hS126)))))))))))))) : Sep _ (geL h.length) ([]))⟩
  rw [iteF hc124] at hF102
  simp only [zf,q9i,qh,qf,qm,B0,reduceIte,a7]
  refine qi (v := .agg [v103,v107,.int .i64 v100.1.Next]) rfl ?_
  simp only [f86,zk,B0,reduceIte,a7]
  refine zb (us:=[v103,v107,.int .i64 v100.1.Next]) rfl (cs':=[v103,v107,
    .int .i64 v100.1.Next]) (i5 hS123) hW rfl (qo (n7 hv105) (qo (t7 hv109) (qo rfl zl))) (nle rfl) rfl (fun h130 hS131=>?_)
  simp only [qa,q81,qf,f87,qg,j0,evp,B0,reduceIte,a7]
  refine ju (n:=1) (f:=cI) [v100.2.1] hS131 rfl rfl (fun v132 c133 h134 hv135 hS136=>?_)
  simp only [wz,B0,reduceIte,a7]
  obtain ⟨l138,hx139,hF140⟩:=qk hF102
  refine yx (f:=cI) hv58 (s7 hS136) hW (fun _=>rfl) (fun _=>rfl) (a2g hv135 hS136 (fun _=>rfl)) hx139 (fun v141 c142 h143 hv144 hS145=>?_)
  simp only [qg,qa,qn,B0,reduceIte,a7]
  have e147:=qj hF140
  exact hN77 _ _ _ e147.symm ⟨v141,c142,v103,c104,v107,c108,f85,f86,rfl,f88,hv144,hv105,hv109,
    (o6 (i5 (f0 (i5 (i5 (l6 (s7 (l6 (s7 (l6 (f8 hS145)))))))))))⟩ (f90) (f91)
 rintro ⟨s149,s154⟩ fr163 h164 rfl ⟨v151,c152,v156,c157,v160,c161,f166,f167,f168,f169,hv153,hv158,hv162,hS165⟩
 dsimp only [jnO] at hk73
 dsimp only at *
 unfold qep at hk73
 simp only [qzc,qh,qf,f167,qm,B0,reduceIte,a7]
 refine qi (v := .agg [v156,v160,.int .i64 s154.Next]) ((zw (l9 _ _ _ (f8 hS165))).trans rfl) ?_
 simp only [f168,qg,f166,zk,B0,reduceIte,a7]
 refine zb (us:=[v156,v160,.int .i64 s154.Next]) rfl (cs':=[v156,v160,
   .int .i64 s154.Next]) hS165 hW rfl (qo (n7 hv158) (qo (t7 hv162) (qo rfl zl))) (nle rfl) rfl (fun h170 hS171=>?_)
 simp only [qg,qa,q8,B0,reduceIte,a7]
 have he:=qj hk73
 subst he
 refine j8 (ql (kn (bb:=b1) (oo:=0) (v := .agg [v156,v160,
   .int .i64 s154.Next]) (f166) ((zw (l9 _ _ _ hS171)).trans rfl)) (ql (yl (v:=v151) (rfl)) (ql (yl (v := .bool true) (rfl)) zd))) ?_
 exact ⟨v156,c157,v160,c161,v151,c152,by first | trivial | rfl,hv158,hv162,hv153,(f0 (f0 (l6 ((l6 (hS171))))))⟩
end Go.Proofs.Ytjloihcijdcpeaa.X
