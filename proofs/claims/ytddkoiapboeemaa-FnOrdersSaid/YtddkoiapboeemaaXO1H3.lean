/- The functions' code comes to what the plain functions say (3). -/
import Derived.Test.YtddkoiapboeemaaXO1H2
set_option linter.unusedVariables false
set_option linter.unusedSimpArgs false
set_option maxRecDepth 100000
namespace Go.Proofs.Ytddkoiapboeemaa.X
open Go
open Nat (reduceEqDiff)
theorem qe9 {W:Nat→Bool}{h:Heap}{lo:Nat→Prop}{S0:List Obj} (hW:∀ b,
  lo b→W b=true) (k:Nat) (pb0:Nat) (v_0:L1Cur) (r:(List Call) × L1Cur) (hF:uc k v_0=some r) (hS:Sep h lo ([Blk1 pb0 [lst cU8 v_0.code,
  .int .i64 v_0.at_,.int .u64 v_0.seed] 72]++(S0))) : Ret E W 60 [.ptr pb0 0] h (fun v h'=>∃ rv0 rc0,
  v=rv0∧SlF qb 6 55 rv0 r.1 rc0∧Sep h' lo (rc0++([Blk1 pb0 [lst cU8 r.2.code,.int .i64 r.2.at_,.int .u64 r.2.seed] 72]++(S0)))):=by
 refine Ret.of (fn:=x60) rfl (Run.of ?_)
 unfold uc at hF
 have zf0:qq [.ptr pb0 0] 0 = .ptr pb0 0:=rfl
 generalize qq [.ptr pb0 0]=fr0 at zf0 ⊢
 obtain ⟨l1,hx2,hF3⟩:=qi hF
 simp only [x60,qg,qe,qd,qa,qmy,qlu,qhe,B0,reduceIte,reduceEqDiff]
 refine qeu (f:=cI) (z:=(0:Int)) hS hx2 rfl (fun v4 c5 h6 hv7 hS8=>?_)
 obtain ⟨l10,hx11,hF12⟩:=qi hF3
 simp only [qd,qa,qni,qg,qe,qhe,B0,reduceIte,reduceEqDiff]
 refine qeu (f:=cI) (z:=(0:Int)) hS8 hx11 rfl (fun v13 c14 h15 hv16 hS17=>?_)
 obtain ⟨v19,hx20,hF21⟩:=qi hF12
 simp only [qd,qa,qme,qg,qe,ql8,zf0,qo,B0,reduceIte,reduceEqDiff]
 refine jz rfl (jy hW pb0 v_0 8 v19 hx20 (Sep.m2 hS17)) ?_
 rintro _ h22 ⟨rfl,hS23⟩
 obtain ⟨v24,hx25,hF26⟩:=qi hF21
 simp only [qd,qa,qn0,qg,qe,zf0,qo,B0,reduceIte,reduceEqDiff]
 refine jz rfl (qah hW pb0 v19.2 20 v24 hx25 hS23) ?_
 rintro _ h27 ⟨rfl,hS28⟩
 simp only [qa,quh,qx,B0,reduceIte,reduceEqDiff]
 obtain ⟨sv34,hX32,hk33⟩:=qi hF26
 refine qbh (t:=v24.1) (fun fr' h'=>fr' 0 = .ptr pb0 0∧fr' 3 = .nil∧fr' 4=v4∧fr' 5=v13∧fr' 6 = .int .i64 0∧fr' 7 = .int .i64 sv34.1∧Sep h' lo
   ([Blk1 pb0 [lst cU8 sv34.2.code,.int .i64 sv34.2.at_,.int .u64 sv34.2.seed] 72]++(c5++(c14++(S0))))) (fun Q35 hN36 hR37 hE38=>⟨fun hc39=>?_,fun hc39=>?_⟩) ?_
 ·rw [iteT hc39] at hX32
  obtain ⟨v40,hx41,hF42⟩:=qi hX32
  simp only [qqw,qe,zf0,qd,qo,B0,reduceIte,reduceEqDiff]
  refine jz rfl (jy hW pb0 v24.2 2 v40 hx41 hS28) ?_
  rintro _ h43 ⟨rfl,hS44⟩
  simp only [qv,qc,xl,qd,qa,qk,B0,reduceIte,reduceEqDiff]
  have e45:=qh hF42
  subst e45
  exact hN36 _ _ ⟨zf0,rfl,rfl,rfl,rfl,rfl,(Sep.m2 (Sep.m2 (Sep.m1 hS44)))⟩
 ·rw [iteF hc39] at hX32
  simp only [q8,qk,B0,reduceIte,reduceEqDiff]
  have e46:=qh hX32
  subst e46
  exact hN36 _ _ ⟨zf0,rfl,rfl,rfl,rfl,rfl,(Sep.m2 (Sep.m2 (Sep.m1 hS28)))⟩
 rintro fr47 h48 ⟨f50,f51,f52,f53,f54,f55,hS49⟩
 obtain ⟨s29,s30⟩:=sv34
 dsimp only at *
 unfold qcg at hk33
 simp only [qoi,qg,B0,reduceIte,reduceEqDiff]
 obtain ⟨oc86,hX88,hk89⟩:=jd hk33
 simp only [qmf]
 refine qff (σ:=(List Call) × Int × Int × L1Cur × (List Int) × (List Int))
   (fun s320=>y8 s320.1 s320.2.1 s320.2.2.1 s320.2.2.2.1 s320.2.2.2.2.1 s320.2.2.2.2.2) (fun s fr' h'=>∃ v72 c73 c79 c82,
   fr' 0 = .ptr pb0 0∧fr' 3=v72∧fr' 4=v4∧fr' 5=v13∧fr' 6 = .int .i64 s.2.1∧fr' 7 = .int .i64 s.2.2.1∧SlF qb 6 55 v72 s.1 c73∧SlF cI 1 3 v4 s.2.2.2.2.1 c79∧SlF cI 1 3 v13 s.2.2.2.2.2 c82∧Sep h' lo
   ([Blk1 pb0 [lst cU8 s.2.2.2.1.code,.int .i64 s.2.2.2.1.at_,.int .u64 s.2.2.2.1.seed] 72]++(c73++(c79++(c82++(S0)))))) hX88 ⟨.nil,[],c5,c14,f50,f51,f52,f53,
   f54,f55,SlF.nil,hv7,hv16,((Sep.m2 (Sep.m2 (Sep.m2 hS49))) : Sep _ lo ([Blk1 pb0 [lst cU8 s30.code,.int .i64 s30.at_,
   .int .u64 s30.seed] 72]++(c5++(c14++(S0)))))⟩ (fun _ _ _ h=>h) ?_ ?_
 ·rintro ⟨s70,s75,s76,s77,s78,s81⟩ fr98 h99 ⟨v72,c73,c79,c82,f101,f102,f103,f104,f105,f106,hv74,hv80,hv83,hS100⟩ oc87 hF90 hr91 Q92 hN93 hK94 hR95 hE96
  dsimp only at *
  unfold y8 at hF90
  simp only [qny,qg,qe,f106,qd,qv,qc,ut,qa,qx,B0,reduceIte,reduceEqDiff]
  refine qt (t:=(decide ((0:Int)<s76))) (fun hc108=>?_) (fun hc108=>?_)
  ·rw [iteT hc108] at hF90
   obtain ⟨v109,hx110,hF111⟩:=qi hF90
   simp only [q8,qm7,qg,qae,qox,qe,f105,qd,f101,qo,B0,reduceIte,reduceEqDiff]
   refine jz rfl (jy hW pb0 s77 4 v109 hx110 hS100) ?_
   rintro _ h112 ⟨rfl,hS113⟩
   obtain ⟨v114,hx115,hF116⟩:=qi hF111
   simp only [qv,qc,xl,qd,qa,qnm,qg,qe,f101,qo,B0,reduceIte,reduceEqDiff]
   refine jz rfl (jy hW pb0 v109.2 4 v114 hx115 hS113) ?_
   rintro _ h117 ⟨rfl,hS118⟩
   obtain ⟨v119,hx120,hF121⟩:=qi hF116
   simp only [f101,qd,qo,B0,reduceIte,reduceEqDiff]
   refine jz rfl (jy hW pb0 v114.2 2 v119 hx120 hS118) ?_
   rintro _ h122 ⟨rfl,hS123⟩
   obtain ⟨v124,hx125,hF126⟩:=qi hF121
   simp only [f101,qd,qo,B0,reduceIte,reduceEqDiff]
   refine jz rfl (qah hW pb0 v119.2 2 v124 hx125 hS123) ?_
   rintro _ h127 ⟨rfl,hS128⟩
   simp only [run_build,evp,B0,reduceIte,reduceEqDiff]
   refine qj (v := .agg [.int .i64 v114.1,.int .i64 v119.1,.bool v124.1,.int .i64 0,.int .i64 0,.int .i64 0]) rfl ?_
   simp only [yp,B0,reduceIte,reduceEqDiff]
   refine ki hS128 (fun b129 h130 hS131=>?_)
   simp only [jh,B0,reduceIte,reduceEqDiff]
   refine z6 (us:=[.int .i64 v114.1,.int .i64 v119.1,.bool v124.1,.int .i64 0,.int .i64 0,.int .i64 0]) rfl (cs':=[.int .i64 v114.1,.int .i64 v119.1,
     .bool v124.1,.int .i64 0,.int .i64 0,.int .i64 0]) hS131 hW rfl rfl (nle rfl) rfl (fun h133 hS134=>?_)
   obtain ⟨v135,hx136,hF137⟩:=qi hF126
   simp only [qa,qmn,qg,qe,qd,f101,qo,B0,reduceIte,reduceEqDiff]
   refine jz rfl (jy hW pb0 v124.2 4 v135 hx136 (Sep.m1 hS134)) ?_
   rintro _ h138 ⟨rfl,hS139⟩
   simp only [qv,qc,qhj,zb,Nat.reduceAdd,Nat.zero_add,Nat.add_zero,zx,jh,B0,reduceIte,reduceEqDiff]
   refine z6 (us:=[.int .i64 (IntKind.wrap .i64 ((IntKind.wrap .i64 (s75+(IntKind.wrap .i64 ((1:Int)+v109.1)))) - v135.1))]) rfl (cs':=[.int .i64 v114.1,
     .int .i64 v119.1,.bool v124.1,.int .i64 0,.int .i64 (IntKind.wrap .i64 ((IntKind.wrap .i64 (s75+(IntKind.wrap .i64 ((1:Int)+v109.1)))) - v135.1)),
     .int .i64 0]) (Sep.m1 hS139) hW rfl rfl (nle rfl) rfl (fun h140 hS141=>?_)
   simp only [qa,qn8,qg,yo,xu,zc,Nat.reduceAdd,Nat.zero_add,Nat.add_zero,zx,j0,B0,reduceIte,reduceEqDiff]
   refine zd (v := .int .i64 (IntKind.wrap .i64 ((IntKind.wrap .i64 (s75+(IntKind.wrap .i64 ((1:Int)+v109.1)))) - v135.1))) ((kq
     (Sep.bk _ _ _ hS141)).trans rfl) ?_
   simp only [f103,k7,zc,xu,Nat.reduceAdd,Nat.zero_add,Nat.add_zero,zx,j0,B0,reduceIte,reduceEqDiff]
   refine zd (v := .int .i64 v114.1) ((kq (Sep.bk _ _ _ hS141)).trans rfl) ?_
   obtain ⟨x142,hx143,hF144⟩:=qi hF137
   simp only [ue,B0,reduceIte,reduceEqDiff]
   obtain ⟨b145,hb146⟩:=SlF.isrow hv80 (wx hx143)
   refine zd (SlF.ia hv80 hb146 hx143) ?_
   simp only [j0,B0,reduceIte,reduceEqDiff]
   refine zd (v := .int .i64 x142) ((SlF.ld (o:=0) hv80 (Sep.m3 hS141) hb146 hx143 (fun _=>rfl) (nle rfl)).trans rfl) ?_
   simp only [qbf,zc,qdn,jx,qq2,qx,B0,reduceIte,reduceEqDiff]
   obtain ⟨s147,hX149,hk150⟩:=qi hF144
   refine qbh (t:=(decide ((IntKind.wrap .i64 ((IntKind.wrap .i64 (s75+(IntKind.wrap .i64 ((1:Int)+v109.1)))) - v135.1))<x142)))
     (fun fr' h'=>fr' 0 = .ptr pb0 0∧fr' 3=v72∧fr' 4=v4∧fr' 5=v13∧fr' 6 = .int .i64 (IntKind.wrap .i64 (s75+(IntKind.wrap .i64
     ((1:Int)+v109.1))))∧fr' 7 = .int .i64 s76∧fr' 8 = .ptr b129 0∧Sep h' lo ([Blk1 pb0 [lst cU8 v135.2.code,.int .i64 v135.2.at_,
     .int .u64 v135.2.seed] 72]++(c73++(c79++(c82++([Blk1 b129 [.int .i64 s147.Client,.int .i64 s147.Object,.bool s147.Write,.int .i64 s147.Value,
     .int .i64 s147.Begin,.int .i64 s147.End] 55]++(S0))))))) (fun Q151 hN152 hR153 hE154=>⟨fun hc155=>?_,fun hc155=>?_⟩) ?_
   ·rw [iteT hc155] at hX149
    simp only [qv8,qe,f103,qd,zb,qc,Nat.reduceAdd,Nat.zero_add,Nat.add_zero,zx,qr,B0,reduceIte,reduceEqDiff]
    refine qj (v := .int .i64 v114.1) ((kq (Sep.bk _ _ _ hS141)).trans rfl) ?_
    simp only [je,B0,reduceIte,reduceEqDiff]
    refine qj (SlF.ia hv80 hb146 hx143) ?_
    simp only [qr,B0,reduceIte,reduceEqDiff]
    refine qj (v := .int .i64 x142) ((SlF.ld (o:=0) hv80 (Sep.m3 hS141) hb146 hx143 (fun _=>rfl) (nle rfl)).trans rfl) ?_
    simp only [zb,qc,Nat.reduceAdd,Nat.zero_add,Nat.add_zero,zx,jh,B0,reduceIte,reduceEqDiff]
    refine z6 (us:=[.int .i64 x142]) rfl (cs':=[.int .i64 v114.1,.int .i64 v119.1,.bool v124.1,.int .i64 0,.int .i64 x142,
      .int .i64 0]) hS141 hW rfl rfl (nle rfl) rfl (fun h156 hS157=>?_)
    simp only [qa,qk,B0,reduceIte,reduceEqDiff]
    have e158:=qh hX149
    subst e158
    exact hN152 _ _ ⟨f101,f102,f103,f104,rfl,f106,rfl,(Sep.m4 (Sep.m4 (Sep.m4 (Sep.m4 hS157))))⟩
   ·rw [iteF hc155] at hX149
    simp only [q8,qk,B0,reduceIte,reduceEqDiff]
    have e159:=qh hX149
    subst e159
    exact hN152 _ _ ⟨f101,f102,f103,f104,rfl,f106,rfl,(Sep.m4 (Sep.m4 (Sep.m4 (Sep.m4 hS141))))⟩
   rintro fr160 h161 ⟨f163,f164,f165,f166,f167,f168,f169,hS162⟩
   unfold qas at hk150
   obtain ⟨v170,hx171,hF172⟩:=qi hk150
   simp only [qnt,qg,qe,f167,qd,qv,qc,xl,f163,qo,B0,reduceIte,reduceEqDiff]
   refine jz rfl (jy hW pb0 v135.2 5 v170 hx171 hS162) ?_
   rintro _ h173 ⟨rfl,hS174⟩
   simp only [qv,qc,xl,f169,zb,Nat.reduceAdd,Nat.zero_add,Nat.add_zero,zx,jh,B0,reduceIte,reduceEqDiff]
   refine z6 (us:=[.int .i64 (IntKind.wrap .i64 ((IntKind.wrap .i64 ((IntKind.wrap .i64 (s75+(IntKind.wrap .i64 ((1:Int)+v109.1))))+1))+v170.1))]) rfl
     (cs':=[.int .i64 s147.Client,.int .i64 s147.Object,.bool s147.Write,.int .i64 s147.Value,.int .i64 s147.Begin,
     .int .i64 (IntKind.wrap .i64 ((IntKind.wrap .i64 ((IntKind.wrap .i64 (s75+(IntKind.wrap .i64 ((1:Int)+v109.1))))+1))+v170.1))]) (Sep.m4 hS174) hW rfl rfl
     (nle rfl) rfl (fun h175 hS176=>?_)
   simp only [qa,qoz,qg,qe,f169,zb,qc,Nat.reduceAdd,Nat.zero_add,Nat.add_zero,zx,qr,B0,reduceIte,reduceEqDiff]
   refine qj (v := .int .i64 s147.Begin) ((kq (Sep.bk _ _ _ hS176)).trans rfl) ?_
   simp only [f167,qd,qv,qc,ut,qa,qsl,qx,B0,reduceIte,reduceEqDiff]
   obtain ⟨sv182,hX180,hk181⟩:=qi hF172
   refine qbh (t:=(decide ((IntKind.wrap .i64 (s75+(IntKind.wrap .i64 ((1:Int)+v109.1))))<s147.Begin)))
     (fun fr' h'=>fr' 0 = .ptr pb0 0∧fr' 3=v72∧fr' 4=v4∧fr' 5=v13∧fr' 6 = .int .i64 sv182.1∧fr' 7 = .int .i64 s76∧fr' 8 = .ptr b129 0∧Sep h' lo
     ([Blk1 pb0 [lst cU8 v170.2.code,.int .i64 v170.2.at_,.int .u64 v170.2.seed] 72]++(c73++(c79++(c82++([Blk1 b129 [.int .i64 sv182.2.Client,
     .int .i64 sv182.2.Object,.bool sv182.2.Write,.int .i64 sv182.2.Value,.int .i64 sv182.2.Begin,
     .int .i64 sv182.2.End] 55]++(S0))))))) (fun Q183 hN184 hR185 hE186=>⟨fun hc187=>?_,fun hc187=>?_⟩) ?_
   ·rw [iteT hc187] at hX180
    simp only [qs8,qg,qe,f169,zb,qc,Nat.reduceAdd,Nat.zero_add,Nat.add_zero,zx,qr,B0,reduceIte,reduceEqDiff]
    refine qj (v := .int .i64 s147.Begin) ((kq (Sep.bk _ _ _ hS176)).trans rfl) ?_
    simp only [qd,qa,qsk,qe,qv,qc,xl,f169,zb,Nat.reduceAdd,Nat.zero_add,Nat.add_zero,zx,jh,B0,reduceIte,
      reduceEqDiff]
    refine z6 (us:=[.int .i64 (IntKind.wrap .i64 (s147.Begin+1))]) rfl (cs':=[.int .i64 s147.Client,.int .i64 s147.Object,.bool s147.Write,
      .int .i64 s147.Value,.int .i64 s147.Begin,.int .i64 (IntKind.wrap .i64 (s147.Begin+1))]) hS176 hW rfl rfl (nle rfl) rfl (fun h188 hS189=>?_)
    simp only [qa,qk,B0,reduceIte,reduceEqDiff]
    have e190:=qh hX180
    subst e190
    exact hN184 _ _ ⟨f163,f164,f165,f166,rfl,f168,f169,(Sep.m4 (Sep.m4 (Sep.m4 (Sep.m4 hS189))))⟩
   ·rw [iteF hc187] at hX180
    simp only [q8,qk,B0,reduceIte,reduceEqDiff]
    have e191:=qh hX180
    subst e191
    exact hN184 _ _ ⟨f163,f164,f165,f166,f167,f168,f169,(Sep.m4 (Sep.m4 (Sep.m4 (Sep.m4 hS176))))⟩
   rintro fr192 h193 ⟨f195,f196,f197,f198,f199,f200,f201,hS194⟩
   obtain ⟨s177,s178⟩:=sv182
   dsimp only at *
   unfold qax at hk181
   simp only [qot,qg,qe,f197,qd,f201,zb,qc,Nat.reduceAdd,Nat.zero_add,Nat.add_zero,zx,qr,B0,reduceIte,reduceEqDiff]
   refine qj (v := .int .i64 s178.Client) ((kq (Sep.bk _ _ _ (Sep.m4 hS194))).trans rfl) ?_
   simp only [f201,zb,qc,Nat.reduceAdd,Nat.zero_add,Nat.add_zero,zx,qr,B0,reduceIte,reduceEqDiff]
   refine qj (v := .int .i64 s178.End) ((kq (Sep.bk _ _ _ (Sep.m4 hS194))).trans rfl) ?_
   obtain ⟨x202,hx203,hF204⟩:=qi hk181
   simp only [je,B0,reduceIte,reduceEqDiff]
   refine qj (SlF.ia hv80 hb146 hx203) ?_
   simp only [jh,B0,reduceIte,reduceEqDiff]
   refine qbx (f:=cI) (x':=s178.End) (o:=0) hv80 (Sep.m2 hS194) hW hb146 hx203 (fun _=>rfl) rfl rfl (nle rfl) rfl (fun c207 h205 hv208 hS206=>?_)
   have hx209:=qa3 (x':=s178.End) hx203
   simp only [qa,qpb,qg,qe,f201,zb,qc,Nat.reduceAdd,Nat.zero_add,Nat.add_zero,zx,qr,B0,reduceIte,reduceEqDiff]
   refine qj (v := .bool s178.Write) ((kq (Sep.bk _ _ _ (Sep.m4 hS206))).trans rfl) ?_
   simp only [qa,qor,qx,B0,reduceIte,reduceEqDiff]
   obtain ⟨sv218,hX216,hk217⟩:=qi hF204
   refine qbh (t:=s178.Write) (fun fr' h'=>∃ c212,
     fr' 0 = .ptr pb0 0∧fr' 3=v72∧fr' 4=v4∧fr' 5=v13∧fr' 6 = .int .i64 s177∧fr' 7 = .int .i64 s76∧fr' 8 = .ptr b129 0∧SlF cI 1 3 v13 sv218.2.1 c212∧Sep h' lo
     ([Blk1 pb0 [lst cU8 sv218.1.code,.int .i64 sv218.1.at_,.int .u64 sv218.1.seed] 72]++(c73++(c207++(c212++([Blk1 b129 [.int .i64 sv218.2.2.Client,
     .int .i64 sv218.2.2.Object,.bool sv218.2.2.Write,.int .i64 sv218.2.2.Value,.int .i64 sv218.2.2.Begin,
     .int .i64 sv218.2.2.End] 55]++(S0))))))) (fun Q219 hN220 hR221 hE222=>⟨fun hc223=>?_,fun hc223=>?_⟩) ?_
   ·rw [iteT hc223] at hX216
    obtain ⟨v224,hx225,hF226⟩:=qi hX216
    simp only [qqy,qg,qe,f195,qd,qo,B0,reduceIte,reduceEqDiff]
    refine jz rfl (jy hW pb0 v170.2 4 v224 hx225 (Sep.m1 hS206)) ?_
    rintro _ h227 ⟨rfl,hS228⟩
    simp only [qv,qc,xl,f201,zb,Nat.reduceAdd,Nat.zero_add,Nat.add_zero,zx,jh,B0,reduceIte,reduceEqDiff]
    refine z6 (us:=[.int .i64 (IntKind.wrap .i64 ((1:Int)+v224.1))]) rfl (cs':=[.int .i64 s178.Client,.int .i64 s178.Object,.bool s178.Write,
      .int .i64 (IntKind.wrap .i64 ((1:Int)+v224.1)),.int .i64 s178.Begin,.int .i64 s178.End]) (Sep.m4 hS228) hW rfl rfl (nle rfl) rfl (fun h229 hS230=>?_)
    simp only [qa,qva,qe,f198,qd,f201,zb,qc,Nat.reduceAdd,Nat.zero_add,Nat.add_zero,zx,qr,B0,reduceIte,reduceEqDiff]
    refine qj (v := .int .i64 s178.Object) ((kq (Sep.bk _ _ _ hS230)).trans rfl) ?_
    simp only [f201,zb,qc,Nat.reduceAdd,Nat.zero_add,Nat.add_zero,zx,qr,B0,reduceIte,reduceEqDiff]
    refine qj (v := .int .i64 (IntKind.wrap .i64 ((1:Int)+v224.1))) ((kq (Sep.bk _ _ _ hS230)).trans rfl) ?_
    obtain ⟨x231,hx232,hF233⟩:=qi hF226
    simp only [je,B0,reduceIte,reduceEqDiff]
    obtain ⟨b234,hb235⟩:=SlF.isrow hv83 (wx hx232)
    refine qj (SlF.ia hv83 hb235 hx232) ?_
    simp only [jh,B0,reduceIte,reduceEqDiff]
    refine qbx (f:=cI) (x':=(IntKind.wrap .i64 ((1:Int)+v224.1))) (o:=0) hv83 (Sep.m4 hS230) hW hb235 hx232 (fun _=>rfl) rfl rfl (nle rfl) rfl
      (fun c238 h236 hv239 hS237=>?_)
    have hx240:=qa3 (x':=(IntKind.wrap .i64 ((1:Int)+v224.1))) hx232
    simp only [qa,qk,B0,reduceIte,reduceEqDiff]
    have e241:=qh hF233
    subst e241
    exact hN220 _ _ ⟨c238,f195,f196,f197,f198,f199,f200,f201,hv239,(Sep.m4 (Sep.m4 (Sep.m3 (Sep.m1 (Sep.m1 hS237)))))⟩
   ·rw [iteF hc223] at hX216
    simp only [qom,qe,f198,qd,f201,zb,qc,Nat.reduceAdd,Nat.zero_add,Nat.add_zero,zx,qr,B0,reduceIte,reduceEqDiff]
    refine qj (v := .int .i64 s178.Object) ((kq (Sep.bk _ _ _ (Sep.m4 hS206))).trans rfl) ?_
    obtain ⟨x242,hx243,hF244⟩:=qi hX216
    simp only [je,B0,reduceIte,reduceEqDiff]
    obtain ⟨b245,hb246⟩:=SlF.isrow hv83 (wx hx243)
    refine qj (SlF.ia hv83 hb246 hx243) ?_
    simp only [qr,B0,reduceIte,reduceEqDiff]
    refine qj (v := .int .i64 x242) ((SlF.ld (o:=0) hv83 (Sep.m3 hS206) hb246 hx243 (fun _=>rfl) (nle rfl)).trans rfl) ?_
    simp only [f201,zb,qc,Nat.reduceAdd,Nat.zero_add,Nat.add_zero,zx,jh,B0,reduceIte,reduceEqDiff]
    refine z6 (us:=[.int .i64 x242]) rfl (cs':=[.int .i64 s178.Client,.int .i64 s178.Object,.bool s178.Write,.int .i64 x242,.int .i64 s178.Begin,
      .int .i64 s178.End]) (Sep.m4 hS206) hW rfl rfl (nle rfl) rfl (fun h247 hS248=>?_)
    simp only [qa,qk,B0,reduceIte,reduceEqDiff]
    have e249:=qh hF244
    subst e249
    exact hN220 _ _ ⟨c82,f195,f196,f197,f198,f199,f200,f201,hv83,(Sep.m4 (Sep.m4 (Sep.m2 (Sep.m4 hS248))))⟩
   rintro fr250 h251 ⟨c212,f253,f254,f255,f256,f257,f258,f259,hv213,hS252⟩
   obtain ⟨s210,s211,s214⟩:=sv218
   dsimp only at *
   unfold qao at hk217
   obtain ⟨v260,hx261,hF262⟩:=qi hk217
   simp only [qoj,qg,qe,f253,qd,qo,B0,reduceIte,reduceEqDiff]
   refine jz rfl (qah hW pb0 s210 8 v260 hx261 hS252) ?_
   rintro _ h263 ⟨rfl,hS264⟩
   simp only [qa,qnf,qx,B0,reduceIte,reduceEqDiff]
   obtain ⟨sv270,hX268,hk269⟩:=qi hF262
   refine qbh (t:=v260.1) (fun fr' h'=>fr' 0 = .ptr pb0 0∧fr' 3=v72∧fr' 4=v4∧fr' 5=v13∧fr' 6 = .int .i64 s177∧fr' 7 = .int .i64 s76∧fr' 8 = .ptr b129 0∧Sep h' lo
     ([Blk1 pb0 [lst cU8 sv270.1.code,.int .i64 sv270.1.at_,.int .u64 sv270.1.seed] 72]++(c73++(c207++(c212++([Blk1 b129 [.int .i64 sv270.2.Client,
     .int .i64 sv270.2.Object,.bool sv270.2.Write,.int .i64 sv270.2.Value,.int .i64 sv270.2.Begin,
     .int .i64 sv270.2.End] 55]++(S0))))))) (fun Q271 hN272 hR273 hE274=>⟨fun hc275=>?_,fun hc275=>?_⟩) ?_
   ·rw [iteT hc275] at hX268
    obtain ⟨v276,hx277,hF278⟩:=qi hX268
    simp only [qlq,qg,qe,f253,qd,qo,B0,reduceIte,reduceEqDiff]
    refine jz rfl (jy hW pb0 v260.2 5 v276 hx277 hS264) ?_
    rintro _ h279 ⟨rfl,hS280⟩
    simp only [f259,zb,qc,Nat.reduceAdd,Nat.zero_add,Nat.add_zero,zx,jh,B0,reduceIte,reduceEqDiff]
    refine z6 (us:=[.int .i64 v276.1]) rfl (cs':=[.int .i64 s214.Client,.int .i64 s214.Object,.bool s214.Write,.int .i64 v276.1,.int .i64 s214.Begin,
      .int .i64 s214.End]) (Sep.m4 hS280) hW rfl rfl (nle rfl) rfl (fun h281 hS282=>?_)
    simp only [qa,qmb,qg,qe,f259,zb,qc,Nat.reduceAdd,Nat.zero_add,Nat.add_zero,zx,qr,B0,reduceIte,reduceEqDiff]
    refine qj (v := .bool s214.Write) ((kq (Sep.bk _ _ _ hS282)).trans rfl) ?_
    simp only [qa,qn9,qx,B0,reduceIte,reduceEqDiff]
    refine qt (t:=s214.Write) (fun hc283=>?_) (fun hc283=>?_)
    ·rw [iteT hc283] at hF278
     simp only [qo7,qe,f259,zb,qc,Nat.reduceAdd,Nat.zero_add,Nat.add_zero,zx,qr,B0,reduceIte,reduceEqDiff]
     refine qj (v := .int .i64 v276.1) ((kq (Sep.bk _ _ _ hS282)).trans rfl) ?_
     simp only [qv,qc,xl,f259,zb,Nat.reduceAdd,Nat.zero_add,Nat.add_zero,zx,jh,B0,reduceIte,reduceEqDiff]
     refine z6 (us:=[.int .i64 (IntKind.wrap .i64 (v276.1+1))]) rfl (cs':=[.int .i64 s214.Client,.int .i64 s214.Object,.bool s214.Write,
       .int .i64 (IntKind.wrap .i64 (v276.1+1)),.int .i64 s214.Begin,.int .i64 s214.End]) hS282 hW rfl rfl (nle rfl) rfl (fun h284 hS285=>?_)
     simp only [qa,qk,B0,reduceIte,reduceEqDiff]
     have e286:=qh hF278
     subst e286
     exact hN272 _ _ ⟨f253,f254,f255,f256,f257,f258,f259,(Sep.m4 (Sep.m4 (Sep.m4 (Sep.m4 hS285))))⟩
    rw [iteF hc283] at hF278
    simp only [q8,qk,B0,reduceIte,reduceEqDiff]
    have e287:=qh hF278
    subst e287
    exact hN272 _ _ ⟨f253,f254,f255,f256,f257,f258,f259,(Sep.m4 (Sep.m4 (Sep.m4 (Sep.m4 hS282))))⟩
   ·rw [iteF hc275] at hX268
    simp only [q8,qk,B0,reduceIte,reduceEqDiff]
    have e288:=qh hX268
    subst e288
    exact hN272 _ _ ⟨f253,f254,f255,f256,f257,f258,f259,(Sep.m4 (Sep.m4 (Sep.m4 (Sep.m4 (Sep.m4 hS264)))))⟩
   rintro fr289 h290 ⟨f292,f293,f294,f295,f296,f297,f298,hS291⟩
   obtain ⟨s265,s266⟩:=sv270
   dsimp only at *
   unfold qar at hk269
   simp only [qly,qe,f293,qd,f298,qr,B0,reduceIte,reduceEqDiff]
   refine qj (v := .agg [.int .i64 s266.Client,.int .i64 s266.Object,.bool s266.Write,.int .i64 s266.Value,.int .i64 s266.Begin,
     .int .i64 s266.End]) ((qi4 (Sep.bk _ _ _ (Sep.m4 hS291))).trans rfl) ?_
   simp only [k8,evp,B0,reduceIte,reduceEqDiff]
   refine j8 (n:=6) (f:=qb) [s266] hS291 rfl rfl (fun v299 c300 h301 hv302 hS303=>?_)
   simp only [ur,B0,reduceIte,reduceEqDiff]
   obtain ⟨l305,hx306,hF307⟩:=qi hk269
   refine yx (f:=qb) hv74 (Sep.m2 hS303) hW (fun _=>rfl) (fun _=>rfl) (SlF.first hv302 hS303 (fun _=>rfl)) hx306 (fun v308 c309 h310 hv311 hS312=>?_)
   simp only [qd,qa,qcr,qe,f297,qv,qc,qhj,qk,B0,reduceIte,reduceEqDiff]
   have e314:=qh hF307
   exact hN93 _ _ _ e314.symm ⟨v308,c309,c207,c212,f292,rfl,f294,f295,f296,rfl,hv311,hv208,hv213,
     (Sep.m3 (Sep.m2 (Sep.m3 (Sep.m3 (Sep.dc (Sep.m4 (Sep.dc (Sep.m1 hS312))))))))⟩
  rw [iteF hc108] at hF90
  simp only [u1,u7,qag,B0,reduceIte,reduceEqDiff]
  have e319:=qh hF90
  exact hK94 _ _ _ e319.symm ⟨v72,c73,c79,c82,f101,f102,f103,f104,f105,f106,hv74,hv80,hv83,(Sep.m3 (Sep.m3 (Sep.m3 (Sep.m3 hS100))))⟩
 rintro ⟨s321,s326,s327,s328,s329,s332⟩ fr335 h336 rfl ⟨v323,c324,c330,c333,f338,f339,f340,f341,f342,f343,hv325,hv331,hv334,hS337⟩
 dsimp only [jnO] at hk89
 dsimp only at *
 unfold qap at hk89
 simp only [qma,qg,qe,f339,qd,zl,qc,SlF.plen hv325,qv,ut,B0,reduceIte,reduceEqDiff]
 obtain ⟨sv349,hX347,hk348⟩:=qi hk89
 refine zu 3 (fun fr' h'=>fr' 0 = .ptr pb0 0∧fr' 3=v323∧fr' 113 = .bool sv349.1∧Sep h' lo ([Blk1 pb0 [lst cU8 sv349.2.code,.int .i64 sv349.2.at_,
   .int .u64 sv349.2.seed] 72]++(c324++(S0)))) (fun Q350 hN351=>?_) ?_
 ·simp only [List.take_succ_cons,List.take_zero]
  simp only [qf (g:=110),B0,reduceIte,reduceEqDiff]
  refine qy (t:=(decide ((0:Int)<(List.length s321:Int)))) (fun hg354=>?_) (fun hg354=>?_)
  ·rw [iteT hg354] at hX347
   obtain ⟨v355,hx356,hF357⟩:=qi hX347
   simp only [hg354,qf (g:=110),qz,f338,qd,qo,B0,reduceIte,reduceEqDiff]
   refine jz rfl (qah hW pb0 s328 30 v355 hx356 hS337) ?_
   rintro _ h358 ⟨rfl,hS359⟩
   simp only [hg354,qn,qc,zj,qa,qk,B0,reduceIte,reduceEqDiff]
   have e360:=qh hF357
   subst e360
   exact hN351 _ _ ⟨f338,f339,rfl,(Sep.m1 (Sep.m1 (Sep.dc (Sep.m2 (Sep.dc (Sep.m2 hS359))))))⟩
  ·rw [iteF hg354] at hX347
   simp only [hg354,qf (g:=110),zv,qn,qc,zi,qa,qk,B0,reduceIte,reduceEqDiff]
   have e361:=qh hX347
   subst e361
   exact hN351 _ _ ⟨f338,f339,rfl,(Sep.m1 (Sep.m1 (Sep.dc (Sep.m2 (Sep.dc (Sep.m2 hS337))))))⟩
 rintro fr362 h363 ⟨f365,f366,f367,hS364⟩
 obtain ⟨s344,s345⟩:=sv349
 dsimp only at *
 unfold qam at hk348
 simp only [List.drop_succ_cons,List.drop_zero]
 simp only [qa,qlz,f367,qx,B0,reduceIte,reduceEqDiff]
 refine qt (t:=s344) (fun hc368=>?_) (fun hc368=>?_)
 ·rw [iteT hc368] at hk348
  simp only [qms,qe,f366,qd,f365,k8,evp,B0,reduceIte,reduceEqDiff]
  refine j8 (n:=1) (f:=cI) [0,100,101] hS364 rfl rfl (fun v369 c370 h371 hv372 hS373=>?_)
  obtain ⟨v375,hx376,hF377⟩:=qi hk348
  simp only [qo,B0,reduceIte,reduceEqDiff]
  refine jz rfl (qis hW pb0 s345 v369 c370 [0,100,101] hv372 v375 hx376 (Sep.m1 hS373)) ?_
  rintro _ h380 ⟨c378,rfl,hv379,hS381⟩
  obtain ⟨x382,hx383,hF384⟩:=qi hF377
  simp only [je,B0,reduceIte,reduceEqDiff]
  obtain ⟨b385,hb386⟩:=SlF.isrow hv325 (wx hx383)
  refine qj (SlF.ia hv325 hb386 hx383) ?_
  simp only [zb,qc,Nat.reduceAdd,Nat.zero_add,Nat.add_zero,zx,jh,B0,reduceIte,reduceEqDiff]
  refine qbx (f:=qb) (x':=(Call.mk x382.Client x382.Object x382.Write x382.Value x382.Begin v375.1)) (o:=5) (i:=(0:Int)) (n:=6) hv325
    (Sep.m2 hS381) hW hb386 hx383 (fun _=>rfl) rfl rfl (nle rfl) rfl (fun c389 h387 hv390 hS388=>?_)
  have hx391:=qa3 (x':=(Call.mk x382.Client x382.Object x382.Write x382.Value x382.Begin v375.1)) hx383
  simp only [qa,qg,qe,f366,qd,qs,B0,reduceIte,reduceEqDiff]
  have he:=qh hF384
  subst he
  simp only [q9,B0,reduceIte,reduceEqDiff]
  exact ⟨v323,c389,by first | trivial | rfl,hv390,(Sep.m1 (Sep.m1 (Sep.dc (Sep.m2 hS388))))⟩
 rw [iteF hc368] at hk348
 simp only [q8,qg,qe,f366,qd,qa,qs,B0,reduceIte,reduceEqDiff]
 have he:=qh hk348
 subst he
 simp only [q9,B0,reduceIte,reduceEqDiff]
 exact ⟨v323,c324,by first | trivial | rfl,hv325,(Sep.m1 hS364)⟩
theorem qg9 {W:Nat→Bool}{h:Heap}{lo:Nat→Prop}{S0:List Obj} (hW:∀ b,
  lo b→W b=true) (k:Nat) (pb0:Nat) (c_0:L1Cur) (n_1:Int) (r:(List Int) × L1Cur) (hF:qac k c_0 n_1=some r) (hS:Sep h lo ([Blk1 pb0 [lst cU8 c_0.code,
  .int .i64 c_0.at_,.int .u64 c_0.seed] 72]++(S0))) : Ret E W 62 [.ptr pb0 0,.int .i64 n_1] h (fun v h'=>∃ rv0 rc0,
  v=rv0∧SlF cI 1 3 rv0 r.1 rc0∧Sep h' lo (rc0++([Blk1 pb0 [lst cU8 r.2.code,.int .i64 r.2.at_,.int .u64 r.2.seed] 72]++(S0)))):=by
 refine Ret.of (fn:=x62) rfl (Run.of ?_)
 unfold qac at hF
 have zf0:qq [.ptr pb0 0,.int .i64 n_1] 0 = .ptr pb0 0:=rfl
 have zf1:qq [.ptr pb0 0,.int .i64 n_1] 1 = .int .i64 n_1:=rfl
 generalize qq [.ptr pb0 0,.int .i64 n_1]=fr0 at zf0 zf1 ⊢
 simp only [x62,qg,qe,qd,qa,ql1,qmw,B0,reduceIte,reduceEqDiff]
 obtain ⟨oc15,hX17,hk18⟩:=jd hF
 simp only [qv2]
 refine qff (σ:=(List Int) × Int) (fun s54=>w8 n_1 s54.1 s54.2) (fun s fr' h'=>∃ v9 c10,
   fr' 0 = .ptr pb0 0∧fr' 1 = .int .i64 n_1∧fr' 5=v9∧fr' 6 = .nil∧fr' 7 = .int .i64 s.2∧SlF cI 1 3 v9 s.1 c10∧Sep h' lo ([Blk1 pb0 [lst cU8 c_0.code,
   .int .i64 c_0.at_,.int .u64 c_0.seed] 72]++(c10++(S0)))) hX17 ⟨.nil,[],zf0,zf1,rfl,rfl,rfl,SlF.nil,(hS:Sep _ lo ([Blk1 pb0 [lst cU8 c_0.code,
   .int .i64 c_0.at_,.int .u64 c_0.seed] 72]++(S0)))⟩ (fun _ _ _ h=>h) ?_ ?_
 ·rintro ⟨s7,s12⟩ fr27 h28 ⟨v9,c10,f30,f31,f32,f33,f34,hv11,hS29⟩ oc16 hF19 hr20 Q21 hN22 hK23 hR24 hE25
  dsimp only at *
  unfold w8 at hF19
  simp only [qq8,qg,qe,f34,qd,f31,qv,qc,qdn,qa,qx,B0,reduceIte,reduceEqDiff]
  refine qt (t:=(decide (s12<n_1))) (fun hc36=>?_) (fun hc36=>?_)
  ·rw [iteT hc36] at hF19
   simp only [q8,qr0,qg,qae,qvv,qe,f32,qd,f34,k8,evp,B0,reduceIte,reduceEqDiff]
   refine j8 (n:=1) (f:=cI) [s12] hS29 rfl rfl (fun v37 c38 h39 hv40 hS41=>?_)
   simp only [ur,B0,reduceIte,reduceEqDiff]
   obtain ⟨l43,hx44,hF45⟩:=qi hF19
   refine yx (f:=cI) hv11 (Sep.m2 hS41) hW (fun _=>rfl) (fun _=>rfl) (SlF.first hv40 hS41 (fun _=>rfl)) hx44 (fun v46 c47 h48 hv49 hS50=>?_)
   simp only [qd,qa,qcr,qe,f34,qv,qc,xl,qk,B0,reduceIte,reduceEqDiff]
   have e52:=qh hF45
   exact hN22 _ _ _ e52.symm ⟨v46,c47,f30,f31,rfl,f33,rfl,hv49,(Sep.m1 (Sep.dc (Sep.m1 hS50)))⟩
  rw [iteF hc36] at hF19
  simp only [u1,u7,qag,B0,reduceIte,reduceEqDiff]
  have e53:=qh hF19
  exact hK23 _ _ _ e53.symm ⟨v9,c10,f30,f31,f32,f33,f34,hv11,(Sep.m1 (Sep.m1 hS29))⟩
 rintro ⟨s55,s60⟩ fr61 h62 rfl ⟨v57,c58,f64,f65,f66,f67,f68,hv59,hS63⟩
 dsimp only [jnO] at hk18
 dsimp only at *
 unfold qbd at hk18
 simp only [qo2,qg,B0,reduceIte,reduceEqDiff]
 obtain ⟨oc93,hX95,hk96⟩:=jd hk18
 simp only [qof]
 refine qff (σ:=(List Int) × (List Int) × L1Cur) (fun s180=>w9 s180.1 s180.2.1 s180.2.2) (fun s fr' h'=>∃ v82 c83 v87 c88,
   fr' 0 = .ptr pb0 0∧fr' 1 = .int .i64 n_1∧fr' 5=v82∧fr' 6=v87∧SlF cI 1 3 v82 s.1 c83∧SlF cI 1 3 v87 s.2.1 c88∧Sep h' lo ([Blk1 pb0 [lst cU8 s.2.2.code,
   .int .i64 s.2.2.at_,.int .u64 s.2.2.seed] 72]++(c83++(c88++(S0))))) hX95 ⟨v57,c58,.nil,[],f64,f65,f66,f67,hv59,SlF.nil,
   ((Sep.m1 (Sep.m1 hS63)) : Sep _ lo ([Blk1 pb0 [lst cU8 c_0.code,.int .i64 c_0.at_,.int .u64 c_0.seed] 72]++(c58++(S0))))⟩ (fun _ _ _ h=>h) ?_ ?_
 ·rintro ⟨s80,s85,s90⟩ fr105 h106 ⟨v82,c83,v87,c88,f108,f109,f110,f111,hv84,hv89,hS107⟩ oc94 hF97 hr98 Q99 hN100 hK101 hR102 hE103
  dsimp only at *
  unfold w9 at hF97
  simp only [qmi,qg,qe,f110,qd,zl,qc,SlF.plen hv84,qv,ut,qa,qx,B0,reduceIte,reduceEqDiff]
  refine qt (t:=(decide ((0:Int)<(List.length s80:Int)))) (fun hc113=>?_) (fun hc113=>?_)
  ·rw [iteT hc113] at hF97
   obtain ⟨v114,hx115,hF116⟩:=qi hF97
   simp only [q8,qs2,qae,qux,qg,qe,f108,qd,f110,zl,qc,SlF.plen hv84,qo,B0,reduceIte,reduceEqDiff]
   refine jz rfl (jy hW pb0 s90 (List.length s80:Int) v114 hx115 hS107) ?_
   rintro _ h117 ⟨rfl,hS118⟩
   obtain ⟨x119,hx120,hF121⟩:=qi hF116
   simp only [qd,qa,qum,qg,qe,f111,f110,je,B0,reduceIte,reduceEqDiff]
   obtain ⟨b122,hb123⟩:=SlF.isrow hv84 (wx hx120)
   refine qj (SlF.ia hv84 hb123 hx120) ?_
   simp only [qr,B0,reduceIte,reduceEqDiff]
   refine qj (v := .int .i64 x119) ((SlF.ld (o:=0) hv84 (Sep.m1 hS118) hb123 hx120 (fun _=>rfl) (nle rfl)).trans rfl) ?_
   simp only [k8,evp,B0,reduceIte,reduceEqDiff]
   refine j8 (n:=1) (f:=cI) [x119] hS118 rfl rfl (fun v124 c125 h126 hv127 hS128=>?_)
   simp only [ur,B0,reduceIte,reduceEqDiff]
   obtain ⟨l130,hx131,hF132⟩:=qi hF121
   refine yx (f:=cI) hv89 (Sep.m3 hS128) hW (fun _=>rfl) (fun _=>rfl) (SlF.first hv127 hS128 (fun _=>rfl)) hx131 (fun v133 c134 h135 hv136 hS137=>?_)
   simp only [qd,qa,qq7,yo,ql3,evp,B0,reduceIte,reduceEqDiff]
   refine qhn (n:=1) (f:=cI) ([] : List Int) hS137 rfl rfl (fun v140 c141 h142 hv143 hS144 hq139=>?_)
   obtain ⟨l146,hx147,hF148⟩:=qi hF132
   simp only [f110,k7,zc,qx1,Option.map_some,Option.map_none,B0,reduceIte,reduceEqDiff]
   obtain ⟨w149,i150,he151,hw152⟩:=SlF.win (f:=cI) (ty:=3) none (some v114.1) hv84 hx147 (Sep.m4 hS144)
   refine zd he151 ?_
   simp only [qoo,B0,reduceIte,reduceEqDiff]
   obtain ⟨l153,hx154,hF155⟩:=qi hF148
   refine qgt (f:=cI) hv143 hS144 hW (fun _=>rfl) (fun _=>rfl) (SlW.first hw152 hv84 (Sep.m4 hS144) (fun _=>rfl)) hx154 (fun v156 c157 h158 hv159 hS160=>?_)
   obtain ⟨l162,hx163,hF164⟩:=qi hF155
   simp only [f110,qy7,zc,qx4,xl,qxo,Option.map_some,Option.map_none,B0,reduceIte,reduceEqDiff]
   obtain ⟨w165,i166,he167,hw168⟩:=SlF.win (f:=cI) (ty:=3) (some (IntKind.wrap .i64 (v114.1+1))) none hv84 hx163 (Sep.m4 hS160)
   refine zd he167 ?_
   simp only [qoo,B0,reduceIte,reduceEqDiff]
   obtain ⟨l169,hx170,hF171⟩:=qi hF164
   refine qgt (f:=cI) hv159 hS160 hW (fun _=>rfl) (fun _=>rfl) (SlW.first hw168 hv84 (Sep.m4 hS160) (fun _=>rfl)) hx170 (fun v172 c173 h174 hv175 hS176=>?_)
   simp only [k7,zc,jx,qcr,qk,B0,reduceIte,reduceEqDiff]
   have e178:=qh hF171
   exact hN100 _ _ _ e178.symm ⟨v172,c173,v133,c134,f108,f109,rfl,rfl,hv175,hv136,(Sep.m2 (Sep.m1 (Sep.m1 (Sep.dc (Sep.m3 (Sep.dc (Sep.m2 hS176)))))))⟩
  rw [iteF hc113] at hF97
  simp only [u1,u7,qag,B0,reduceIte,reduceEqDiff]
  have e179:=qh hF97
  exact hK101 _ _ _ e179.symm ⟨v82,c83,v87,c88,f108,f109,f110,f111,hv84,hv89,(Sep.m2 (Sep.m2 (Sep.m2 hS107)))⟩
 rintro ⟨s181,s186,s191⟩ fr192 h193 rfl ⟨v183,c184,v188,c189,f195,f196,f197,f198,hv185,hv190,hS194⟩
 dsimp only [jnO] at hk96
 dsimp only at *
 unfold ux at hk96
 simp only [ql6,qg,qe,f196,qd,qv,qc,ut,B0,reduceIte,reduceEqDiff]
 obtain ⟨sv204,hX202,hk203⟩:=qi hk96
 refine zu 3 (fun fr' h'=>fr' 0 = .ptr pb0 0∧fr' 1 = .int .i64 n_1∧fr' 6=v188∧fr' 47 = .bool sv204.1∧Sep h' lo ([Blk1 pb0 [lst cU8 sv204.2.code,
   .int .i64 sv204.2.at_,.int .u64 sv204.2.seed] 72]++(c189++(S0)))) (fun Q205 hN206=>?_) ?_
 ·simp only [List.take_succ_cons,List.take_zero]
  simp only [qf (g:=44),B0,reduceIte,reduceEqDiff]
  refine qy (t:=(decide ((0:Int)<n_1))) (fun hg209=>?_) (fun hg209=>?_)
  ·rw [iteT hg209] at hX202
   obtain ⟨v210,hx211,hF212⟩:=qi hX202
   simp only [hg209,qf (g:=44),qz,f195,qd,qo,B0,reduceIte,reduceEqDiff]
   refine jz rfl (qah hW pb0 s191 30 v210 hx211 hS194) ?_
   rintro _ h213 ⟨rfl,hS214⟩
   simp only [hg209,qn,qc,zj,qa,qk,B0,reduceIte,reduceEqDiff]
   have e215:=qh hF212
   subst e215
   exact hN206 _ _ ⟨f195,f196,f198,rfl,(Sep.m1 (Sep.m1 (Sep.dc (Sep.m1 hS214))))⟩
  ·rw [iteF hg209] at hX202
   simp only [hg209,qf (g:=44),zv,qn,qc,zi,qa,qk,B0,reduceIte,reduceEqDiff]
   have e216:=qh hX202
   subst e216
   exact hN206 _ _ ⟨f195,f196,f198,rfl,(Sep.m1 (Sep.m1 (Sep.dc (Sep.m1 hS194))))⟩
 rintro fr217 h218 ⟨f220,f221,f222,f223,hS219⟩
 obtain ⟨s199,s200⟩:=sv204
 dsimp only at *
 unfold uw at hk203
 simp only [List.drop_succ_cons,List.drop_zero]
 simp only [qa,qol,f223,qx,B0,reduceIte,reduceEqDiff]
 refine qt (t:=s199) (fun hc224=>?_) (fun hc224=>?_)
 ·rw [iteT hc224] at hk203
  obtain ⟨v225,hx226,hF227⟩:=qi hk203
  simp only [qo4,qe,f222,qd,f220,f221,qv,qc,xl,qo,B0,reduceIte,reduceEqDiff]
  refine jz rfl (jy hW pb0 s200 (IntKind.wrap .i64 (n_1+1)) v225 hx226 hS219) ?_
  rintro _ h228 ⟨rfl,hS229⟩
  obtain ⟨x230,hx231,hF232⟩:=qi hF227
  simp only [je,B0,reduceIte,reduceEqDiff]
  obtain ⟨b233,hb234⟩:=SlF.isrow hv190 (wx hx231)
  refine qj (SlF.ia hv190 hb234 hx231) ?_
  simp only [jh,B0,reduceIte,reduceEqDiff]
  refine qbx (f:=cI) (x':=v225.1) (o:=0) (i:=(0:Int)) (n:=1) hv190 (Sep.m1 hS229) hW hb234 hx231 (fun _=>rfl) rfl rfl (nle rfl) rfl
    (fun c237 h235 hv238 hS236=>?_)
  have hx239:=qa3 (x':=v225.1) hx231
  simp only [qa,qg,qe,f222,qd,qs,B0,reduceIte,reduceEqDiff]
  have he:=qh hF232
  subst he
  simp only [q9,B0,reduceIte,reduceEqDiff]
  exact ⟨v188,c237,by first | trivial | rfl,hv238,(Sep.m1 (Sep.m1 hS236))⟩
 rw [iteF hc224] at hk203
 simp only [q8,qg,qe,f222,qd,qa,qs,B0,reduceIte,reduceEqDiff]
 have he:=qh hk203
 subst he
 simp only [q9,B0,reduceIte,reduceEqDiff]
 exact ⟨v188,c189,by first | trivial | rfl,hv190,(Sep.m1 hS219)⟩
theorem qe4 {W:Nat→Bool}{h:Heap} (hW:∀ b,
  (geL h.length) b→W b=true) (k:Nat) (code_0:List Int) (r:(List Call) × (List Int)) (hF:wm k code_0=some r) : Ret E W 37 [lst cU8 code_0] h
  (fun v h'=>∃ rv0 rc0 rv1 rc1,v = .tup [rv0,rv1]∧SlF qb 6 55 rv0 r.1 rc0∧SlF cI 1 3 rv1 r.2 rc1∧Sep h' (geL h.length) (rc0++(rc1++([])))):=by
 refine Ret.of (fn:=x37) rfl (Run.of ?_)
 unfold wm at hF
 have zf0:qq [lst cU8 code_0] 0=lst cU8 code_0:=rfl
 generalize qq [lst cU8 code_0]=fr0 at zf0 ⊢
 have hS:Sep h (geL h.length) []:=Sep.nil h
 simp only [x37,qg,qe,qd,qa,qsa,zf0,run_build,evp,B0,reduceIte,reduceEqDiff]
 refine qj (v := .agg [lst cU8 code_0,.int .i64 0,.int .u64 0]) rfl ?_
 simp only [x9,B0,reduceIte,reduceEqDiff]
 refine yq (cs:=[lst cU8 code_0,.int .i64 0,.int .u64 0]) hS rfl rfl rfl (fun b1 h2 hS3=>?_)
 obtain ⟨v5,hx6,hF7⟩:=qi hF
 simp only [qd,qa,qv3,qg,qe,qo,B0,reduceIte,reduceEqDiff]
 refine jz rfl (qe9 hW k b1 (L1Cur.mk code_0 0 0) v5 hx6 hS3) ?_
 rintro v8 h12 ⟨_,c9,rfl,hv10,hS13⟩
 obtain ⟨v14,hx15,hF16⟩:=qi hF7
 simp only [qd,qa,qtl,qg,qe,qo,B0,reduceIte,reduceEqDiff]
 refine qg0 rfl hS13 (ql (SlF.snap hv10 hS13 rfl (fun _=>rfl) (fun _=>rfl)) zf) (qg2 (fun b hb=>decide_eq_true hb) k v5.1 v14 hx15) ?_
 rintro _ h21 ⟨v17,c18,rfl,hv19,hS22⟩
 refine ⟨_,qex (qb7 (qcp (SlF.free1 hv19)) (qb7 rfl qg5)),hS22,(qdq (SlF.pf hv19 (fun _=>rfl)) qe3),fun h23 hS24=>?_⟩
 have hS25:Sep h23 (geL h.length) (c18++(c9++([Blk1 b1 [lst cU8 v5.2.code,.int .i64 v5.2.at_,.int .u64 v5.2.seed] 72]++([])))):=by simpa only [List.append_assoc,
   List.nil_append] using hS24
 simp only [qd,y7,qc,xe,xg,qa,qso,qg,qe,B0,reduceIte,reduceEqDiff]
 obtain ⟨sv31,hX29,hk30⟩:=qi hF16
 refine zu 3 (fun fr' h'=>fr' 4 = .ptr b1 0∧fr' 5=v8∧fr' 6=v17∧fr' 22 = .bool sv31.1∧Sep h' (geL h.length) ([Blk1 b1 [lst cU8 sv31.2.code,.int .i64 sv31.2.at_,
   .int .u64 sv31.2.seed] 72]++(c9++(c18++([]))))) (fun Q32 hN33=>?_) ?_
 ·simp only [List.take_succ_cons,List.take_zero]
  simp only [qf (g:=19),B0,reduceIte,reduceEqDiff]
  refine qy (t:=v14.2) (fun hg36=>?_) (fun hg36=>?_)
  ·rw [iteT hg36] at hX29
   obtain ⟨v37,hx38,hF39⟩:=qi hX29
   simp only [hg36,qf (g:=19),qz,qd,qo,B0,reduceIte,reduceEqDiff]
   refine jz rfl (qah hW b1 v5.2 2 v37 hx38 (Sep.m2 hS25)) ?_
   rintro _ h40 ⟨rfl,hS41⟩
   simp only [hg36,qn,qc,zj,qa,qk,B0,reduceIte,reduceEqDiff]
   have e42:=qh hF39
   subst e42
   exact hN33 _ _ ⟨rfl,rfl,rfl,rfl,(Sep.m2 (Sep.m2 (Sep.m1 hS41)))⟩
  ·rw [iteF hg36] at hX29
   simp only [hg36,qf (g:=19),zv,qn,qc,zi,qa,qk,B0,reduceIte,reduceEqDiff]
   have e43:=qh hX29
   subst e43
   exact hN33 _ _ ⟨rfl,rfl,rfl,rfl,(Sep.m2 (Sep.m1 hS25))⟩
 rintro fr44 h45 ⟨f47,f48,f49,f50,hS46⟩
 obtain ⟨s26,s27⟩:=sv31
 dsimp only at *
 unfold yk at hk30
 simp only [List.drop_succ_cons,List.drop_zero]
 simp only [qa,qug,f50,qx,B0,reduceIte,reduceEqDiff]
 refine qt (t:=s26) (fun hc51=>?_) (fun hc51=>?_)
 ·rw [iteT hc51] at hk30
  simp only [qsu,qg,qe,f48,qd,f49,qa,qs,B0,reduceIte,reduceEqDiff]
  have he:=qh hk30
  subst he
  simp only [z7,B0,reduceIte,reduceEqDiff]
  exact ⟨v8,c9,v17,c18,by first | trivial | rfl,hv10,hv19,(Sep.m1 (Sep.m1 (Sep.dc (hS46))))⟩
 rw [iteF hc51] at hk30
 obtain ⟨v52,hx53,hF54⟩:=qi hk30
 simp only [q8,qut,qg,qe,f48,qd,f47,zl,qc,SlF.plen hv10,qo,B0,reduceIte,reduceEqDiff]
 refine jz rfl (qg9 hW k b1 s27 (List.length v5.1:Int) v52 hx53 hS46) ?_
 rintro v55 h59 ⟨_,c56,rfl,hv57,hS60⟩
 simp only [qd,qa,qs,B0,reduceIte,reduceEqDiff]
 have he:=qh hF54
 subst he
 simp only [z7,B0,reduceIte,reduceEqDiff]
 exact ⟨v8,c9,v55,c56,by first | trivial | rfl,hv10,hv57,(Sep.m1 (Sep.dc (Sep.m2 (Sep.dc (Sep.m1 hS60)))))⟩
theorem qeo {W:Nat→Bool}{h:Heap} (hW:∀ b,
  (geL h.length) b→W b=true) (k:Nat) (code_0:List Int) (r:(List Call) × Int) (hF:we k code_0=some r) : Ret E W 38 [lst cU8 code_0] h
  (fun v h'=>cut h.length h' E.sz false 9 v=some (.tup [lst qb r.1,.int .i64 r.2])):=by
 refine Ret.of (fn:=x38) rfl (Run.of ?_)
 unfold we at hF
 have zf0:qq [lst cU8 code_0] 0=lst cU8 code_0:=rfl
 generalize qq [lst cU8 code_0]=fr0 at zf0 ⊢
 have hS:Sep h (geL h.length) []:=Sep.nil h
 simp only [x38,qg,qe,qd,qa,qsi,zf0,run_build,evp,B0,reduceIte,reduceEqDiff]
 refine qj (v := .agg [lst cU8 code_0,.int .i64 0,.int .u64 0]) rfl ?_
 simp only [x9,B0,reduceIte,reduceEqDiff]
 refine yq (cs:=[lst cU8 code_0,.int .i64 0,.int .u64 0]) hS rfl rfl rfl (fun b1 h2 hS3=>?_)
 obtain ⟨v5,hx6,hF7⟩:=qi hF
 simp only [qd,qa,qtm,qg,qe,qo,B0,reduceIte,reduceEqDiff]
 refine jz rfl (qe9 hW k b1 (L1Cur.mk code_0 0 0) v5 hx6 hS3) ?_
 rintro v8 h12 ⟨_,c9,rfl,hv10,hS13⟩
 obtain ⟨v14,hx15,hF16⟩:=qi hF7
 simp only [qd,qo,B0,reduceIte,reduceEqDiff]
 refine jz rfl (jy hW b1 v5.2 5 v14 hx15 (Sep.m1 hS13)) ?_
 rintro _ h17 ⟨rfl,hS18⟩
 simp only [qv,qc,qhj,qd,qa,qs,B0,reduceIte,reduceEqDiff]
 have he:=qh hF16
 subst he
 simp only [z7,B0,reduceIte,reduceEqDiff]
 exact y5 (ql (SlF.cut hv10 (Sep.m1 hS18) (fun _ hb=>hb) rfl (fun _=>rfl) (fun _=>rfl)) (ql rfl zf))
theorem qf6 {W:Nat→Bool}{h:Heap} (hW:∀ b,
  (geL h.length) b→W b=true) (a_0:List Call) (b_1:List Call) (r:Bool) (hF:ub a_0 b_1=some r) : Ret E W 39 [lst qb a_0,
  lst qb b_1] h (fun v h'=>cut h.length h' E.sz false 9 v=some (.bool r)):=by
 refine Ret.of (fn:=x39) rfl (Run.of ?_)
 unfold ub at hF
 have zf0:qq [lst qb a_0,lst qb b_1] 0=lst qb a_0:=rfl
 have zf1:qq [lst qb a_0,lst qb b_1] 1=lst qb b_1:=rfl
 generalize qq [lst qb a_0,lst qb b_1]=fr0 at zf0 zf1 ⊢
 have hS:Sep h (geL h.length) []:=Sep.nil h
 simp only [x39,qg,qe,qd,qa,qse,zf0,zl,qc,zn,zf1,qv,qey,qx,B0,reduceIte,reduceEqDiff]
 refine qt (t:=(decide ((List.length a_0:Int)≠(List.length b_1:Int)))) (fun hc1=>?_) (fun hc1=>?_)
 ·rw [iteT hc1] at hF
  simp only [qg,qe,qd,qa,qs,B0,reduceIte,reduceEqDiff]
  have he:=qh hF
  subst he
  simp only [q9,B0,reduceIte,reduceEqDiff]
  exact rfl
 rw [iteF hc1] at hF
 simp only [q8,qtf,qg,qe,zf0,qd,zl,qc,zn,qa,B0,reduceIte,reduceEqDiff]
 obtain ⟨oc4,hX6,hk7⟩:=jd hF
 simp only [qtu]
 refine jq (σ:=Unit) a_0 (fun i2 x3 _=>wd b_1 i2 x3 ) (fun s fr' h'=>fr' 0=lst qb a_0∧fr' 1=lst qb b_1∧Sep h' (geL h.length)
   ([])) hX6 ⟨zf0,zf1,hS⟩ (by simp only [B0,reduceIte,reduceEqDiff]) (by simp only [B0,reduceIte,
   reduceEqDiff]) (fun _ _ _ h=>h) rfl rfl (fun _ _ _ _ h=>h) (fun _ _ _ _ h=>h) (fun _ _ _ _ h=>h) (by decide) ?_ ?_
 ·rintro i2 x3 _ fr16 h17 hx21 ⟨f19,f20,hS18⟩ f22 f23 oc5 hF8 hr9 Q10 hN11 hB15 hK12 hR13 hE14
  unfold wd at hF8
  simp only [qrl,qg,qe,f22,qd,qa,qsh,yo,f19,k7,zc,ue,B0,reduceIte,reduceEqDiff]
  refine zd (v := .ref (qb x3) 0) (jp hx21 rfl) ?_
  simp only [j0,B0,reduceIte,reduceEqDiff]
  refine zd (v := .agg [.int .i64 x3.Client,.int .i64 x3.Object,.bool x3.Write,.int .i64 x3.Value,.int .i64 x3.Begin,.int .i64 x3.End]) rfl ?_
  obtain ⟨x24,hx25,hF26⟩:=qi hF8
  simp only [f20,k7,zc,ue,B0,reduceIte,reduceEqDiff]
  refine zd (v := .ref (qb x24) 0) (xx hx25 rfl) ?_
  simp only [j0,B0,reduceIte,reduceEqDiff]
  refine zd (v := .agg [.int .i64 x24.Client,.int .i64 x24.Object,.bool x24.Write,.int .i64 x24.Value,.int .i64 x24.Begin,.int .i64 x24.End]) rfl ?_
  simp only [qyn,B0,reduceIte,reduceEqDiff]
  refine zd (v := .bool (!((x3.Client == x24.Client)&&((x3.Object == x24.Object)&&((x3.Write == x24.Write)&&((x3.Value == x24.Value)&&((x3.Begin == x24.Begin) &&
    ((x3.End == x24.End)&&true)))))))) rfl ?_
  simp only [jx,qx,B0,reduceIte,reduceEqDiff]
  refine qt (t:=(!((x3.Client == x24.Client)&&((x3.Object == x24.Object)&&((x3.Write == x24.Write)&&((x3.Value == x24.Value)&&((x3.Begin == x24.Begin) &&
    ((x3.End == x24.End)&&true)))))))) (fun hc27=>?_) (fun hc27=>?_)
  ·rw [iteT hc27] at hF26
   simp only [qg,qe,qd,qa,qs,B0,reduceIte,reduceEqDiff]
   have e28:=qh hF26
   subst e28
   have ho29:=hr9 _ rfl
   have hk30:=hk7
   rw [ho29] at hk30
   dsimp only [jnO] at hk30
   apply hR13
   have he:=qh hk30
   subst he
   simp only [q9,B0,reduceIte,reduceEqDiff]
   exact rfl
  rw [iteF hc27] at hF26
  simp only [q8,qk,B0,reduceIte,reduceEqDiff]
  have e31:=qh hF26
  exact hN11 _ _ _ e31.symm ⟨f19,f20,hS18⟩ (f22) (f23)
 rintro _ fr33 h34 rfl ⟨f36,f37,hS35⟩
 dsimp only [jnO] at hk7
 unfold qcj at hk7
 simp only [qg,qe,qd,qa,qs,B0,reduceIte,reduceEqDiff]
 have he:=qh hk7
 subst he
 simp only [q9,B0,reduceIte,reduceEqDiff]
 exact rfl
end Go.Proofs.Ytddkoiapboeemaa.X
namespace Go.Proofs.Ytddkoiapboeemaa.X
open Go
open Nat (reduceEqDiff)
theorem qgu {W:Nat→Bool}{h:Heap} (hW:∀ b,
  (geL h.length) b→W b=true) (k:Nat) (v_0:List Int) (v_1:List Int) (r:Bool) (hF:um k v_0 v_1=some r) : Ret E W 10 [lst cU8 v_0,
  lst cU8 v_1] h (fun v h'=>cut h.length h' E.sz false 9 v=some (.bool r)):=by
 refine Ret.of (fn:=x10) rfl (Run.of ?_)
 unfold um at hF
 have zf0:qq [lst cU8 v_0,lst cU8 v_1] 0=lst cU8 v_0:=rfl
 have zf1:qq [lst cU8 v_0,lst cU8 v_1] 1=lst cU8 v_1:=rfl
 generalize qq [lst cU8 v_0,lst cU8 v_1]=fr0 at zf0 zf1 ⊢
 have hS:Sep h (geL h.length) []:=Sep.nil h
 simp only [x10,qg,qe,qd,qa,qnv,zf0,zl,qc,zn,zf1,qv,xl,ut,qx,B0,reduceIte,reduceEqDiff]
 refine qt (t:=(decide ((1048576:Int)<(IntKind.wrap .i64 ((List.length v_0:Int)+(List.length v_1:Int)))))) (fun hc1=>?_) (fun hc1=>?_)
 ·rw [iteT hc1] at hF
  simp only [qg,qe,qd,qa,qs,B0,reduceIte,reduceEqDiff]
  have he:=qh hF
  subst he
  simp only [q9,B0,reduceIte,reduceEqDiff]
  exact rfl
 rw [iteF hc1] at hF
 obtain ⟨v2,hx3,hF4⟩:=qi hF
 simp only [q8,qow,qg,qe,zf0,qd,qo,B0,reduceIte,reduceEqDiff]
 refine qg0 rfl hS (ql zt zf) (qe4 (fun b hb=>decide_eq_true hb) k v_0 v2 hx3) ?_
 rintro _ h13 ⟨v5,c6,v9,c10,rfl,hv7,hv11,hS14⟩
 refine ⟨_,qex (qb7 (qcp (SlF.free1 hv7)) (qb7 (qcp (SlF.free1 hv11)) qg5)),hS14,
   (qdq (SlF.pf hv7 (fun _=>rfl)) (qdq (SlF.pf hv11 (fun _=>rfl)) qe3)),fun h15 hS16=>?_⟩
 have hS17:Sep h15 (geL h.length) (c6++(c10++([]))):=by simpa only [List.append_assoc,List.nil_append] using hS16
 obtain ⟨v18,hx19,hF20⟩:=qi hF4
 simp only [qd,y7,qc,xe,xg,qa,qmo,qg,qe,qo,B0,reduceIte,reduceEqDiff]
 refine zp rfl (ql (SlF.snap hv7 hS17 rfl (fun _=>rfl) (fun _=>rfl)) (ql (SlF.snap hv11 (Sep.m1 hS17) rfl (fun _=>rfl) (fun _=>rfl)) zf)) (qhb
   (fun b hb=>decide_eq_true hb) v2.1 v2.2 v18 hx19) ?_
 obtain ⟨v21,hx22,hF23⟩:=qi hF20
 simp only [qd,y7,qc,xe,xg,qa,qnw,qg,qe,qo,B0,reduceIte,reduceEqDiff]
 refine zp rfl (ql (SlF.snap hv7 hS17 rfl (fun _=>rfl) (fun _=>rfl)) (ql (SlF.snap hv11 (Sep.m1 hS17) rfl (fun _=>rfl) (fun _=>rfl)) zf)) (qhr
   (fun b hb=>decide_eq_true hb) v2.1 v2.2 v21 hx22) ?_
 obtain ⟨v24,hx25,hF26⟩:=qi hF23
 simp only [qd,y7,qc,xe,xg,qa,qng,qg,qe,qo,B0,reduceIte,reduceEqDiff]
 refine zp rfl (ql (SlF.snap hv7 hS17 rfl (fun _=>rfl) (fun _=>rfl)) (ql (SlF.snap hv11 (Sep.m1 hS17) rfl (fun _=>rfl) (fun _=>rfl)) zf))
   (qem (fun b hb=>decide_eq_true hb) v2.1 v2.2 v24 hx25) ?_
 obtain ⟨v27,hx28,hF29⟩:=qi hF26
 simp only [qd,y7,qc,xe,xg,qa,qll,qg,qe,qo,B0,reduceIte,reduceEqDiff]
 refine zp rfl (ql (SlF.snap hv7 hS17 rfl (fun _=>rfl) (fun _=>rfl)) (ql (SlF.snap hv11 (Sep.m1 hS17) rfl (fun _=>rfl) (fun _=>rfl)) zf))
   (qen (fun b hb=>decide_eq_true hb) v2.1 v2.2 v27 hx28) ?_
 simp only [qd,y7,qc,xe,xg,qa,qm9,qg,qe,qdv,qgr,B0,reduceIte,reduceEqDiff]
 refine zu 4 (fun fr' h'=>Sep h' (geL h.length) (c6++(c10++([])))∧fr' 68 = .bool ((!(v18.2 == v21.2)) ||
   (!(v18.1 == v21.1)))∧fr' 1=lst cU8 v_1∧fr' 5=v5∧fr' 6=v9∧fr' 7 = .bool v18.1∧fr' 8 = .bool v18.2∧fr' 11 = .bool v24.1∧fr' 12 = .bool v24.2∧fr' 13 = .bool v27.1∧fr' 14 = .bool v27.2)
   (fun Q30 hN31=>?_) ?_
 ·simp only [List.take_succ_cons,List.take_zero]
  simp only [qf (g:=64),B0,reduceIte,reduceEqDiff]
  refine qy (t:=(!(v18.2 == v21.2))) (fun hg32=>?_) (fun hg32=>?_)
  ·simp only [hg32,qf (g:=64),z1,qn,qc,zj,qa,qk,B0,reduceIte,reduceEqDiff]
   exact hN31 _ _ ⟨(Sep.m1 (Sep.m1 hS17)),by rw [orT hg32]; simp only [B0,reduceIte,reduceEqDiff],zf1,rfl,rfl,rfl,rfl,rfl,rfl,rfl,rfl⟩
  ·simp only [hg32,qf (g:=64),qw,qd,qdv,qc,qgr,qn,zi,qa,qk,B0,reduceIte,reduceEqDiff]
   exact hN31 _ _ ⟨(Sep.m1 (Sep.m1 hS17)),by rw [orF hg32]; simp only [B0,reduceIte,reduceEqDiff],zf1,rfl,rfl,rfl,rfl,rfl,rfl,rfl,rfl⟩
 rintro fr33 h44 ⟨hS45,f34,f35,f36,f37,f38,f39,f40,f41,f42,f43⟩
 simp only [List.drop_succ_cons,List.drop_zero]
 simp only [f34,qd,B0,reduceIte,reduceEqDiff]
 refine zu 4 (fun fr' h'=>Sep h' (geL h.length) (c6++(c10++([])))∧fr' 73 = .bool (((!(v18.2 == v21.2))||(!(v18.1 == v21.1))) ||
   (!(v24.2 == v27.2)))∧fr' 1=lst cU8 v_1∧fr' 5=v5∧fr' 6=v9∧fr' 7 = .bool v18.1∧fr' 8 = .bool v18.2∧fr' 11 = .bool v24.1∧fr' 12 = .bool v24.2∧fr' 13 = .bool v27.1)
   (fun Q46 hN47=>?_) ?_
 ·simp only [List.take_succ_cons,List.take_zero]
  simp only [qf (g:=69),B0,reduceIte,reduceEqDiff]
  refine qy (t:=((!(v18.2 == v21.2))||(!(v18.1 == v21.1)))) (fun hg48=>?_) (fun hg48=>?_)
  ·simp only [hg48,qf (g:=69),z1,qn,qc,zj,qa,qk,B0,reduceIte,reduceEqDiff]
   exact hN47 _ _ ⟨(Sep.m1 (Sep.m1 hS45)),by rw [orT hg48]; simp only [B0,reduceIte,reduceEqDiff],f35,f36,f37,f38,f39,f40,f41,f42⟩
  ·simp only [hg48,qf (g:=69),qw,f41,qd,f43,qdv,qc,qgr,qn,zi,qa,qk,B0,reduceIte,reduceEqDiff]
   exact hN47 _ _ ⟨(Sep.m1 (Sep.m1 hS45)),by rw [orF hg48]; simp only [B0,reduceIte,reduceEqDiff],f35,f36,f37,f38,f39,f40,f41,f42⟩
 rintro fr49 h59 ⟨hS60,f50,f51,f52,f53,f54,f55,f56,f57,f58⟩
 simp only [List.drop_succ_cons,List.drop_zero]
 simp only [f50,qd,B0,reduceIte,reduceEqDiff]
 refine zu 4 (fun fr' h'=>Sep h' (geL h.length) (c6++(c10++([])))∧fr' 78 = .bool ((((!(v18.2 == v21.2))||(!(v18.1 == v21.1)))||(!(v24.2 == v27.2))) ||
   (!(v24.1 == v27.1)))∧fr' 1=lst cU8 v_1∧fr' 5=v5∧fr' 6=v9∧fr' 7 = .bool v18.1∧fr' 8 = .bool v18.2∧fr' 11 = .bool v24.1∧fr' 12 = .bool v24.2)
   (fun Q61 hN62=>?_) ?_
 ·simp only [List.take_succ_cons,List.take_zero]
  simp only [qf (g:=74),B0,reduceIte,reduceEqDiff]
  refine qy (t:=(((!(v18.2 == v21.2))||(!(v18.1 == v21.1)))||(!(v24.2 == v27.2)))) (fun hg63=>?_) (fun hg63=>?_)
  ·simp only [hg63,qf (g:=74),z1,qn,qc,zj,qa,qk,B0,reduceIte,reduceEqDiff]
   exact hN62 _ _ ⟨(Sep.m1 (Sep.m1 hS60)),by rw [orT hg63]; simp only [B0,reduceIte,reduceEqDiff],f51,f52,f53,f54,f55,f56,f57⟩
  ·simp only [hg63,qf (g:=74),qw,f56,qd,f58,qdv,qc,qgr,qn,zi,qa,qk,B0,reduceIte,reduceEqDiff]
   exact hN62 _ _ ⟨(Sep.m1 (Sep.m1 hS60)),by rw [orF hg63]; simp only [B0,reduceIte,reduceEqDiff],f51,f52,f53,f54,f55,f56,f57⟩
 rintro fr64 h73 ⟨hS74,f65,f66,f67,f68,f69,f70,f71,f72⟩
 simp only [List.drop_succ_cons,List.drop_zero]
 simp only [qa,f65,qx,B0,reduceIte,reduceEqDiff]
 refine qt (t:=((((!(v18.2 == v21.2))||(!(v18.1 == v21.1)))||(!(v24.2 == v27.2)))||(!(v24.1 == v27.1)))) (fun hc75=>?_) (fun hc75=>?_)
 ·rw [iteT hc75] at hF29
  simp only [qg,qe,qd,qa,qs,B0,reduceIte,reduceEqDiff]
  have he:=qh hF29
  subst he
  simp only [q9,B0,reduceIte,reduceEqDiff]
  exact rfl
 rw [iteF hc75] at hF29
 simp only [q8,qn1,qg,qe,f70,qd,B0,reduceIte,reduceEqDiff]
 refine zu 2 (fun fr' h'=>Sep h' (geL h.length) (c6++(c10++([])))∧fr' 82 = .bool
   (v18.2&&v18.1)∧fr' 1=lst cU8 v_1∧fr' 5=v5∧fr' 6=v9∧fr' 11 = .bool v24.1∧fr' 12 = .bool v24.2) (fun Q76 hN77=>?_) ?_
 ·simp only [List.take_succ_cons,List.take_zero]
  simp only [qf (g:=80),B0,reduceIte,reduceEqDiff]
  refine qy (t:=v18.2) (fun hg78=>?_) (fun hg78=>?_)
  ·simp only [hg78,qf (g:=80),qz,f69,qd,qn,qc,zj,qa,qk,B0,reduceIte,reduceEqDiff]
   exact hN77 _ _ ⟨(Sep.m1 (Sep.m1 hS74)),by rw [uu hg78]; simp only [B0,reduceIte,reduceEqDiff],f66,f67,f68,f71,f72⟩
  ·simp only [hg78,qf (g:=80),zv,qn,qc,zi,qa,qk,B0,reduceIte,reduceEqDiff]
   exact hN77 _ _ ⟨(Sep.m1 (Sep.m1 hS74)),by rw [uv hg78]; simp only [B0,reduceIte,reduceEqDiff],f66,f67,f68,f71,f72⟩
 rintro fr79 h86 ⟨hS87,f80,f81,f82,f83,f84,f85⟩
 simp only [List.drop_succ_cons,List.drop_zero]
 simp only [f80,qd,B0,reduceIte,reduceEqDiff]
 refine zu 2 (fun fr' h'=>Sep h' (geL h.length) (c6++(c10++([])))∧fr' 85 = .bool
   ((v18.2&&v18.1)&&v24.1)∧fr' 1=lst cU8 v_1∧fr' 5=v5∧fr' 6=v9∧fr' 11 = .bool v24.1∧fr' 12 = .bool v24.2) (fun Q88 hN89=>?_) ?_
 ·simp only [List.take_succ_cons,List.take_zero]
  simp only [qf (g:=83),B0,reduceIte,reduceEqDiff]
  refine qy (t:=(v18.2&&v18.1)) (fun hg90=>?_) (fun hg90=>?_)
  ·simp only [hg90,qf (g:=83),qz,f84,qd,qn,qc,zj,qa,qk,B0,reduceIte,reduceEqDiff]
   exact hN89 _ _ ⟨(Sep.m1 (Sep.m1 hS87)),by rw [uu hg90]; simp only [B0,reduceIte,reduceEqDiff],f81,f82,f83,f84,f85⟩
  ·simp only [hg90,qf (g:=83),zv,qn,qc,zi,qa,qk,B0,reduceIte,reduceEqDiff]
   exact hN89 _ _ ⟨(Sep.m1 (Sep.m1 hS87)),by rw [uv hg90]; simp only [B0,reduceIte,reduceEqDiff],f81,f82,f83,f84,f85⟩
 rintro fr91 h98 ⟨hS99,f92,f93,f94,f95,f96,f97⟩
 simp only [List.drop_succ_cons,List.drop_zero]
 simp only [qa,qmu,f92,qx,B0,reduceIte,reduceEqDiff]
 obtain ⟨oc100,hX101,hk102⟩:=jd hF29
 refine qbh (t:=((v18.2&&v18.1)&&v24.1)) (fun fr' h'=>∃ s,
   oc100 = .nxt s∧fr' 1=lst cU8 v_1∧fr' 5=v5∧fr' 11 = .bool v24.1∧fr' 12 = .bool v24.2∧Sep h' (geL h.length) (c6++([])))
   (fun Q103 hN104 hR105 hE106=>⟨fun hc107=>?_,fun hc107=>?_⟩) ?_
 ·rw [iteT hc107] at hX101
  obtain ⟨v108,hx109,hF110⟩:=qi hX101
  simp only [qv4,qg,qe,f94,qd,qo,B0,reduceIte,reduceEqDiff]
  refine qg0 rfl hS99 (ql (SlF.snap hv7 hS99 rfl (fun _=>rfl) (fun _=>rfl)) zf) (qgv (fun b hb=>decide_eq_true hb) k v2.1 v108 hx109) ?_
  rintro _ h115 ⟨v111,c112,rfl,hv113,hS116⟩
  refine ⟨_,qex (qb7 (qcp (SlF.free1 hv113)) (qb7 rfl qg5)),hS116,(qdq (SlF.pf hv113 (fun _=>rfl)) qe3),fun h117 hS118=>?_⟩
  have hS119:Sep h117 (geL h.length) (c112++(c6++(c10++([])))):=by simpa only [List.append_assoc,List.nil_append] using hS118
  simp only [qd,y7,qc,xe,xg,qa,qvd,qg,qe,jc,kt,B0,reduceIte,reduceEqDiff]
  refine zu 6 (fun fr' h'=>Sep h' (geL h.length) (c6++(c10++(c112++([]))))∧fr' 99 = .bool ((!v108.2)||(decide ((List.length v108.1:Int) ≠
    (List.length v2.2:Int))))∧fr' 1=lst cU8 v_1∧fr' 5=v5∧fr' 6=v9∧fr' 11 = .bool v24.1∧fr' 12 = .bool v24.2∧fr' 15=v111) (fun Q120 hN121=>?_) ?_
  ·simp only [List.take_succ_cons,List.take_zero]
   simp only [qf (g:=93),B0,reduceIte,reduceEqDiff]
   refine qy (t:=(!v108.2)) (fun hg122=>?_) (fun hg122=>?_)
   ·simp only [hg122,qf (g:=93),z1,qn,qc,zj,qa,qk,B0,reduceIte,reduceEqDiff]
    exact hN121 _ _ ⟨(Sep.m2 (Sep.m2 hS119)),by rw [orT hg122]; simp only [B0,reduceIte,reduceEqDiff],f93,f94,f95,f96,f97,rfl⟩
   ·simp only [hg122,qf (g:=93),qw,qd,zl,qc,SlF.plen hv113,f95,SlF.plen hv11,qv,qey,qn,zi,qa,qk,
     B0,reduceIte,reduceEqDiff]
    exact hN121 _ _ ⟨(Sep.m2 (Sep.m2 hS119)),by rw [orF hg122]; simp only [B0,reduceIte,reduceEqDiff],f93,f94,f95,f96,f97,rfl⟩
  rintro fr123 h131 ⟨hS132,f124,f125,f126,f127,f128,f129,f130⟩
  simp only [List.drop_succ_cons,List.drop_zero]
  simp only [qa,f124,qx,B0,reduceIte,reduceEqDiff]
  refine qt (t:=((!v108.2)||(decide ((List.length v108.1:Int)≠(List.length v2.2:Int))))) (fun hc133=>?_) (fun hc133=>?_)
  ·rw [iteT hc133] at hF110
   simp only [qg,qe,qd,qa,qs,B0,reduceIte,reduceEqDiff]
   have e134:=qh hF110
   subst e134
   have hk102':=hk102
   dsimp only [jnO] at hk102'
   apply hR105
   have he:=qh hk102'
   subst he
   simp only [q9,B0,reduceIte,reduceEqDiff]
   exact rfl
  rw [iteF hc133] at hF110
  simp only [q8,qr4,qg,qe,f130,qd,zl,qc,SlF.plen hv113,qa,B0,reduceIte,reduceEqDiff]
  obtain ⟨oc137,hX139,hk140⟩:=jd hF110
  simp only [qvp]
  refine qio (σ:=Unit) (fun i135 _=>wj v2 v108 i135 )
    (fun s fr' h'=>fr' 1=lst cU8 v_1∧fr' 5=v5∧fr' 6=v9∧fr' 11 = .bool v24.1∧fr' 12 = .bool v24.2∧fr' 15=v111∧Sep h' (geL h.length) (c6++(c10 ++
    (c112++([]))))) hX139 ⟨f125,f126,f127,f128,f129,f130,(Sep.m2 (Sep.m2 (Sep.m2 hS132)))⟩ (by simp only [B0,reduceIte,reduceEqDiff]) (by simp only [B0,reduceIte,
    reduceEqDiff]) (fun _ _ _ h=>h) rfl rfl (fun _ _ _ _ h=>h) (fun _ _ _ _ h=>h) (fun _ _ _ _ h=>h) (by decide) ?_ ?_
  ·rintro i135 _ fr149 h150 hx158 ⟨f152,f153,f154,f155,f156,f157,hS151⟩ f159 f160 oc138 hF141 hr142 Q143 hN144 hB148 hK145 hR146 hE147
   unfold wj at hF141
   obtain ⟨x161,hx162,hF163⟩:=qi hF141
   simp only [qty,qg,qe,f159,qd,qa,qs7,yo,f157,k7,zc,ue,B0,reduceIte,reduceEqDiff]
   obtain ⟨b164,hb165⟩:=SlF.isrow hv113 (wx hx162)
   refine zd (SlF.ia hv113 hb165 hx162) ?_
   simp only [j0,B0,reduceIte,reduceEqDiff]
   refine zd (v := .int .i64 x161) ((SlF.ld (o:=0) hv113 (Sep.m2 hS151) hb165 hx162 (fun _=>rfl) (nle rfl)).trans rfl) ?_
   obtain ⟨x166,hx167,hF168⟩:=qi hF163
   simp only [f154,k7,zc,ue,B0,reduceIte,reduceEqDiff]
   obtain ⟨b169,hb170⟩:=SlF.isrow hv11 (wx hx167)
   refine zd (SlF.ia hv11 hb170 hx167) ?_
   simp only [j0,B0,reduceIte,reduceEqDiff]
   refine zd (v := .int .i64 x166) ((SlF.ld (o:=0) hv11 (Sep.m1 hS151) hb170 hx167 (fun _=>rfl) (nle rfl)).trans rfl) ?_
   simp only [qbf,zc,qey,jx,qsd,qx,B0,reduceIte,reduceEqDiff]
   refine qt (t:=(decide (x161≠x166))) (fun hc171=>?_) (fun hc171=>?_)
   ·rw [iteT hc171] at hF168
    simp only [qr1,qg,yo,f157,k7,zc,ue,B0,reduceIte,reduceEqDiff]
    refine zd (SlF.ia hv113 hb165 hx162) ?_
    simp only [j0,B0,reduceIte,reduceEqDiff]
    refine zd (v := .int .i64 x161) ((SlF.ld (o:=0) hv113 (Sep.m2 hS151) hb165 hx162 (fun _=>rfl) (nle rfl)).trans rfl) ?_
    simp only [f154,k7,zc,ue,B0,reduceIte,reduceEqDiff]
    refine zd (SlF.ia hv11 hb170 hx167) ?_
    simp only [j0,B0,reduceIte,reduceEqDiff]
    refine zd (v := .int .i64 x166) ((SlF.ld (o:=0) hv11 (Sep.m1 hS151) hb170 hx167 (fun _=>rfl) (nle rfl)).trans rfl) ?_
    simp only [qbf,zc,ut,jx,qx,B0,reduceIte,reduceEqDiff]
    refine qt (t:=(decide (x166<x161))) (fun hc172=>?_) (fun hc172=>?_)
    ·rw [iteT hc172] at hF168
     simp only [qg,qe,qd,qa,qs,B0,reduceIte,reduceEqDiff]
     have e173:=qh hF168
     subst e173
     have ho174:=hr142 _ rfl
     have hk175:=hk140
     rw [ho174] at hk175
     dsimp only [jnO] at hk175
     apply hR146
     have e176:=qh hk175
     subst e176
     have hk102':=hk102
     dsimp only [jnO] at hk102'
     apply hR105
     have he:=qh hk102'
     subst he
     simp only [q9,B0,reduceIte,reduceEqDiff]
     exact rfl
    rw [iteF hc172] at hF168
    simp only [q8,u1,qag,B0,reduceIte,reduceEqDiff]
    have e177:=qh hF168
    exact hK145 _ _ _ e177.symm ⟨f152,f153,f154,f155,f156,f157,(Sep.m2 (Sep.m2 (Sep.m2 hS151)))⟩
   rw [iteF hc171] at hF168
   simp only [q8,qk,B0,reduceIte,reduceEqDiff]
   have e178:=qh hF168
   exact hN144 _ _ _ e178.symm ⟨f152,f153,f154,f155,f156,f157,(Sep.m2 (Sep.m2 (Sep.m2 hS151)))⟩ (f159) (f160)
  rintro _ fr180 h181 rfl ⟨f183,f184,f185,f186,f187,f188,hS182⟩
  dsimp only [jnO] at hk140
  unfold qcy at hk140
  simp only [qk,B0,reduceIte,reduceEqDiff]
  have e189:=qh hk140
  exact hN104 _ _ ⟨_,e189.symm,f183,f184,f186,f187,(Sep.dc (Sep.m1 (Sep.dc (Sep.m1 hS182))))⟩
 ·rw [iteF hc107] at hX101
  simp only [q8,qk,B0,reduceIte,reduceEqDiff]
  have e191:=qh hX101
  exact hN104 _ _ ⟨_,e191.symm,f93,f94,f96,f97,(Sep.dc (Sep.m1 hS99))⟩
 rintro fr192 h193 ⟨_,rfl,f195,f196,f197,f198,hS194⟩
 dsimp only [jnO] at hk102
 unfold wn at hk102
 simp only [ql2,qg,qe,f198,qd,B0,reduceIte,reduceEqDiff]
 refine zu 3 (fun fr' h'=>Sep h' (geL h.length) (c6++([]))∧fr' 128 = .bool (v24.2&&(!v24.1))∧fr' 1=lst cU8 v_1∧fr' 5=v5) (fun Q199 hN200=>?_) ?_
 ·simp only [List.take_succ_cons,List.take_zero]
  simp only [qf (g:=125),B0,reduceIte,reduceEqDiff]
  refine qy (t:=v24.2) (fun hg201=>?_) (fun hg201=>?_)
  ·simp only [hg201,qf (g:=125),qz,f197,qd,jc,qc,kt,qn,zj,qa,qk,B0,reduceIte,reduceEqDiff]
   exact hN200 _ _ ⟨hS194,by rw [uu hg201]; simp only [B0,reduceIte,reduceEqDiff],f195,f196⟩
  ·simp only [hg201,qf (g:=125),zv,qn,qc,zi,qa,qk,B0,reduceIte,reduceEqDiff]
   exact hN200 _ _ ⟨hS194,by rw [uv hg201]; simp only [B0,reduceIte,reduceEqDiff],f195,f196⟩
 rintro fr202 h206 ⟨hS207,f203,f204,f205⟩
 simp only [List.drop_succ_cons,List.drop_zero]
 simp only [qa,qo8,f203,qx,B0,reduceIte,reduceEqDiff]
 obtain ⟨oc208,hX209,hk210⟩:=jd hk102
 refine qbh (t:=(v24.2&&(!v24.1))) (fun fr' h'=>∃ s,oc208 = .nxt s∧fr' 1=lst cU8 v_1∧Sep h' (geL h.length) ([])) (fun Q211 hN212 hR213 hE214=>⟨fun hc215=>?_,
   fun hc215=>?_⟩) ?_
 ·rw [iteT hc215] at hX209
  obtain ⟨v216,hx217,hF218⟩:=qi hX209
  simp only [qmp,qg,qe,f205,qd,qo,B0,reduceIte,reduceEqDiff]
  refine zp rfl (ql (SlF.snap hv7 hS207 rfl (fun _=>rfl) (fun _=>rfl)) zf) (qfn (fun b hb=>decide_eq_true hb) v2.1 v216 hx217) ?_
  simp only [qd,y7,qc,xe,xg,qa,qoc,qg,qe,jc,kt,B0,reduceIte,reduceEqDiff]
  refine zu 15 (fun fr' h'=>Sep h' (geL h.length) ([])∧fr' 151 = .bool ((!v216.2)||((decide ((1:Int)<(List.length v2.1:Int)))&&(decide (v216.1 =
    (IntKind.wrap .i64 (Int.tdiv (IntKind.wrap .i64 ((List.length v2.1:Int)*(IntKind.wrap .i64 ((List.length v2.1:Int) - 1)))) 2))))))∧fr' 1=lst cU8 v_1)
    (fun Q219 hN220=>?_) ?_
  ·simp only [List.take_succ_cons,List.take_zero]
   simp only [qf (g:=136),B0,reduceIte,reduceEqDiff]
   refine qy (t:=(!v216.2)) (fun hg221=>?_) (fun hg221=>?_)
   ·simp only [hg221,qf (g:=136),z1,qf (g:=140),qe0,qn,qc,zj,qa,qk,B0,reduceIte,reduceEqDiff]
    exact hN220 _ _ ⟨(Sep.dc (hS207)),by rw [orT hg221]; simp only [B0,reduceIte,reduceEqDiff],f204⟩
   ·simp only [hg221,qf (g:=136),qw,f205,qd,zl,qc,SlF.plen hv7,qv,ut,B0,reduceIte,reduceEqDiff]
    refine zu 10 (fun fr' h'=>Sep h' (geL h.length) ([])∧fr' 150 = .bool ((decide ((1:Int)<(List.length v2.1:Int)))&&(decide (v216.1=(IntKind.wrap .i64
      (Int.tdiv (IntKind.wrap .i64 ((List.length v2.1:Int)*(IntKind.wrap .i64 ((List.length v2.1:Int) - 1)))) 2)))))∧fr' 1=lst cU8 v_1∧fr' 136 = .bool
      (!v216.2)) (fun Q222 hN223=>?_) ?_
    ·simp only [List.take_succ_cons,List.take_zero]
     simp only [qf (g:=140),B0,reduceIte,reduceEqDiff]
     refine qy (t:=(decide ((1:Int)<(List.length v2.1:Int)))) (fun hg224=>?_) (fun hg224=>?_)
     ·simp only [hg224,qf (g:=140),qz,qd,f205,zl,qc,SlF.plen hv7,qv,qhj,qqp,qwk (n:=2) (by decide),qb2,hg221,
       qf (g:=136),qw,qn,zj,qa,qk,B0,reduceIte,reduceEqDiff]
      exact hN223 _ _ ⟨(Sep.dc (hS207)),by rw [uu hg224]; simp only [B0,reduceIte,reduceEqDiff],f204,by simp only [hg221,B0,reduceIte,reduceEqDiff]⟩
     ·simp only [hg224,qf (g:=140),zv,hg221,qf (g:=136),qw,qn,qc,zi,qa,qk,B0,reduceIte,
       reduceEqDiff]
      exact hN223 _ _ ⟨(Sep.dc (hS207)),by rw [uv hg224]; simp only [B0,reduceIte,reduceEqDiff],f204,by simp only [hg221,B0,reduceIte,reduceEqDiff]⟩
    rintro fr225 h229 ⟨hS230,f226,f227,f228⟩
    simp only [List.drop_succ_cons,List.drop_zero]
    simp only [f228,hg221,qn,qc,zi,f226,qa,qk,B0,reduceIte,reduceEqDiff]
    exact hN220 _ _ ⟨hS230,by rw [orF hg221]; simp only [B0,reduceIte,reduceEqDiff],f227⟩
  rintro fr231 h234 ⟨hS235,f232,f233⟩
  simp only [List.drop_succ_cons,List.drop_zero]
  simp only [qa,f232,qx,B0,reduceIte,reduceEqDiff]
  refine qt (t:=((!v216.2)||((decide ((1:Int)<(List.length v2.1:Int)))&&(decide (v216.1=(IntKind.wrap .i64 (Int.tdiv (IntKind.wrap .i64
    ((List.length v2.1:Int)*(IntKind.wrap .i64 ((List.length v2.1:Int) - 1)))) 2))))))) (fun hc236=>?_) (fun hc236=>?_)
  ·rw [iteT hc236] at hF218
   simp only [qg,qe,qd,qa,qs,B0,reduceIte,reduceEqDiff]
   have e237:=qh hF218
   subst e237
   have hk210':=hk210
   dsimp only [jnO] at hk210'
   apply hR213
   have he:=qh hk210'
   subst he
   simp only [q9,B0,reduceIte,reduceEqDiff]
   exact rfl
  rw [iteF hc236] at hF218
  simp only [q8,qk,B0,reduceIte,reduceEqDiff]
  have e238:=qh hF218
  exact hN212 _ _ ⟨_,e238.symm,f233,hS235⟩
 ·rw [iteF hc215] at hX209
  simp only [q8,qk,B0,reduceIte,reduceEqDiff]
  have e239:=qh hX209
  exact hN212 _ _ ⟨_,e239.symm,f204,(Sep.dc (hS207))⟩
 rintro fr240 h241 ⟨_,rfl,f243,hS242⟩
 dsimp only [jnO] at hk210
 unfold ug at hk210
 obtain ⟨v244,hx245,hF246⟩:=qi hk210
 simp only [qlr,qg,qe,f243,qd,qo,B0,reduceIte,reduceEqDiff]
 refine zp rfl (ql zt zf) (qeo (fun b hb=>decide_eq_true hb) k v_1 v244 hx245) ?_
 obtain ⟨v247,hx248,hF249⟩:=qi hF246
 simp only [qd,y7,qc,xe,xg,qa,qnx,qg,qe,qo,B0,reduceIte,reduceEqDiff]
 refine qg0 rfl hS242 (ql zt (ql qp zf)) (qg1 (fun b hb=>decide_eq_true hb) k v244.1 v244.2 v247 hx248) ?_
 rintro _ h254 ⟨v250,c251,rfl,hv252,hS255⟩
 refine ⟨_,qex (qb7 (qcp (SlF.free1 hv252)) (qb7 rfl qg5)),hS255,(qdq (SlF.pf hv252 (fun _=>rfl)) qe3),fun h256 hS257=>?_⟩
 have hS258:Sep h256 (geL h.length) (c251++([])):=by simpa only [List.append_assoc,List.nil_append] using hS257
 obtain ⟨v259,hx260,hF261⟩:=qi hF249
 simp only [qd,y7,qc,xe,xg,qa,qmm,qg,qe,qo,B0,reduceIte,reduceEqDiff]
 refine zp rfl (ql zt (ql qp zf)) (qgm (fun b hb=>decide_eq_true hb) v244.1 v244.2 v259 hx260) ?_
 simp only [qd,y7,qc,xe,xg,qa,qo3,qg,qe,qdv,qym,B0,reduceIte,reduceEqDiff]
 obtain ⟨v265,hx266,hF267⟩:=qi hF261
 refine zu 4 (fun fr' h'=>Sep h' (geL h.length) ([])∧fr' 176 = .bool v265) (fun Q262 hN263=>?_) ?_
 ·simp only [List.take_succ_cons,List.take_zero]
  simp only [qf (g:=172),B0,reduceIte,reduceEqDiff]
  refine qy (t:=(v247.2 == v259.2)) (fun hg264=>?_) (fun hg264=>?_)
  ·rw [iteT hg264] at hx266
   obtain ⟨v268,hx269,hF270⟩:=qi hx266
   simp only [hg264,qf (g:=172),qz,qd,qo,B0,reduceIte,reduceEqDiff]
   refine zp rfl (ql (SlF.snap hv252 hS258 rfl (fun _=>rfl) (fun _=>rfl)) (ql zt zf)) (qf6
     (fun b hb=>decide_eq_true hb) v247.1 v259.1 v268 hx269) ?_
   simp only [hg264,qn,qc,zj,qa,qk,B0,reduceIte,reduceEqDiff]
   have e271:=qh hF270
   exact hN263 _ _ ⟨(Sep.dc (hS258)),by rw [←e271]; simp only [B0,reduceIte,reduceEqDiff]⟩
  ·rw [iteF hg264] at hx266
   simp only [hg264,qf (g:=172),zv,qn,qc,zi,qa,qk,B0,reduceIte,reduceEqDiff]
   have e272:=qh hx266
   exact hN263 _ _ ⟨(Sep.dc (hS258)),by rw [←e272]; simp only [B0,reduceIte,reduceEqDiff]⟩
 rintro fr273 h275 ⟨hS276,f274⟩
 simp only [List.drop_succ_cons,List.drop_zero]
 simp only [f274,qd,qa,qs,B0,reduceIte,reduceEqDiff]
 have he:=qh hF267
 subst he
 simp only [q9,B0,reduceIte,reduceEqDiff]
 exact rfl
end Go.Proofs.Ytddkoiapboeemaa.X
