/- The functions' code comes to what the plain functions say (2). -/
import Derived.Test.YtefgfcalgjmhjaaXEH1
set_option linter.unusedVariables false
set_option linter.unusedSimpArgs false
set_option maxRecDepth 100000
namespace Go.Proofs.Ytefgfcalgjmhjaa.X
open Go
open Nat (reduceEqDiff)
theorem qid {W:Nat→Bool}{h:Heap}{lo:Nat→Prop}{S0:List Obj} (hW:∀ b,
  lo b→W b=true) (k:Nat) (pb0:Nat) (c_0:L1Cur) (replicas_1:Int) (r:(List IsrStep) × L1Cur) (hF:ux k c_0 replicas_1=some r) (hS:Sep h lo
  ([Blk1 pb0 [lst cU8 c_0.code,.int .i64 c_0.at_,.int .u64 c_0.seed] 91]++(S0))) : Ret E W 63 [.ptr pb0 0,.int .i64 replicas_1] h (fun v h'=>∃ rv0 rc0,
  v=rv0∧SlF IsrStep.cells 3 63 rv0 r.1 rc0∧Sep h' lo (rc0++([Blk1 pb0 [lst cU8 r.2.code,.int .i64 r.2.at_,.int .u64 r.2.seed] 91]++(S0)))):=by
 refine Ret.of (fn:=x63) rfl (Run.of ?_)
 unfold ux at hF
 have zf0:zc [.ptr pb0 0,.int .i64 replicas_1] 0 = .ptr pb0 0:=rfl
 have zf1:zc [.ptr pb0 0,.int .i64 replicas_1] 1 = .int .i64 replicas_1:=rfl
 generalize zc [.ptr pb0 0,.int .i64 replicas_1]=fr0 at zf0 zf1 ⊢
 obtain ⟨v1,hx2,hF3⟩:=qi hF
 simp only [x63,qf,qe,qd,qa,qqy,qo5,zf0,zd,B0,reduceIte,reduceEqDiff]
 refine yp rfl (yy hW pb0 c_0 40 v1 hx2 hS) ?_
 rintro _ h4 ⟨rfl,hS5⟩
 obtain ⟨v6,hx7,hF8⟩:=qi hF3
 simp only [qd,qa,qq7,qf,qe,zf0,zd,B0,reduceIte,reduceEqDiff]
 refine yp rfl (qih hW pb0 v1.2 8 v6 hx7 hS5) ?_
 rintro _ h9 ⟨rfl,hS10⟩
 simp only [qa,qyy,q9,B0,reduceIte,reduceEqDiff]
 obtain ⟨sv16,hX14,hk15⟩:=qi hF8
 refine qdt (t:=v6.1) (fun fr' h'=>fr' 0 = .ptr pb0 0∧fr' 1 = .int .i64 replicas_1∧fr' 5 = .nil∧fr' 6 = .int .i64 sv16.1∧Sep h' lo ([Blk1 pb0 [lst cU8 sv16.2.code,
   .int .i64 sv16.2.at_,.int .u64 sv16.2.seed] 91]++(S0))) (fun Q17 hN18 hR19 hE20=>⟨fun hc21=>?_,fun hc21=>?_⟩) ?_
 ·rw [iteT hc21] at hX14
  obtain ⟨v22,hx23,hF24⟩:=qi hX14
  simp only [qye,qe,zf0,qd,zd,B0,reduceIte,reduceEqDiff]
  refine yp rfl (yy hW pb0 v6.2 12 v22 hx23 hS10) ?_
  rintro _ h25 ⟨rfl,hS26⟩
  simp only [qy,qb,qao,qd,qa,qk,B0,reduceIte,reduceEqDiff]
  have e27:=qj hF24
  subst e27
  exact hN18 _ _ ⟨zf0,zf1,rfl,rfl,hS26⟩
 ·rw [iteF hc21] at hX14
  simp only [zi,qk,B0,reduceIte,reduceEqDiff]
  have e28:=qj hX14
  subst e28
  exact hN18 _ _ ⟨zf0,zf1,rfl,rfl,hS10⟩
 rintro fr29 h30 ⟨f32,f33,f34,f35,hS31⟩
 obtain ⟨s11,s12⟩:=sv16
 dsimp only at *
 unfold qci at hk15
 simp only [qoh,qf,B0,reduceIte,reduceEqDiff]
 obtain ⟨oc52,hX54,hk55⟩:=ki hk15
 simp only [qpk]
 refine qeg (σ:=(List IsrStep) × Int × L1Cur) (fun s228=>wh replicas_1 s228.1 s228.2.1 s228.2.2) (fun s fr' h'=>∃ v45 c46,
   fr' 0 = .ptr pb0 0∧fr' 1 = .int .i64 replicas_1∧fr' 5=v45∧fr' 6 = .int .i64 s.2.1∧SlF IsrStep.cells 3 63 v45 s.1 c46∧Sep h' lo ([Blk1 pb0 [lst cU8 s.2.2.code,
   .int .i64 s.2.2.at_,.int .u64 s.2.2.seed] 91]++(c46++(S0)))) hX54 ⟨.nil,[],f32,f33,f34,f35,SlF.nil,(hS31:Sep _ lo ([Blk1 pb0 [lst cU8 s12.code,
   .int .i64 s12.at_,.int .u64 s12.seed] 91]++(S0)))⟩ (fun _ _ _ h=>h) ?_ ?_
 ·rintro ⟨s43,s48,s49⟩ fr64 h65 ⟨v45,c46,f67,f68,f69,f70,hv47,hS66⟩ oc53 hF56 hr57 Q58 hN59 hK60 hR61 hE62
  dsimp only at *
  unfold wh at hF56
  simp only [qpu,qf,qe,f70,qd,qy,qb,qd5,qa,q9,B0,reduceIte,reduceEqDiff]
  refine q8 (t:=(decide ((0:Int)<s48))) (fun hc72=>?_) (fun hc72=>?_)
  ·rw [iteT hc72] at hF56
   simp only [zi,qrj,qf,ww,qop,qe,f67,qd,kz,evp,B0,reduceIte,reduceEqDiff]
   refine j9 (n:=1) (f:=cI) [1,2,2,2,3,3,3,3,4,5,6,6,6] hS66 rfl rfl (fun v73 c74 h75 hv76 hS77=>?_)
   obtain ⟨v79,hx80,hF81⟩:=qi hF56
   simp only [zd,B0,reduceIte,reduceEqDiff]
   refine yp rfl (ql2 hW pb0 s49 v73 c74 [1,2,2,2,3,3,3,3,4,5,6,6,6] hv76 v79 hx80 (Sep.m1 hS77)) ?_
   rintro _ h84 ⟨c82,rfl,hv83,hS85⟩
   simp only [run_build,evp,B0,reduceIte,reduceEqDiff]
   refine qh (v := .agg [.int .i64 v79.1,.int .i64 0,.int .i64 0]) rfl ?_
   simp only [jt,B0,reduceIte,reduceEqDiff]
   refine jc hS85 (fun b86 h87 hS88=>?_)
   simp only [zm,B0,reduceIte,reduceEqDiff]
   refine za (us:=[.int .i64 v79.1,.int .i64 0,.int .i64 0]) rfl (cs':=[.int .i64 v79.1,.int .i64 0,
     .int .i64 0]) hS88 hW rfl rfl (Nat.le_of_ble_eq_true rfl) rfl (fun h90 hS91=>?_)
   simp only [qa,qqd,qf,qe,qt,qb,Nat.reduceAdd,Nat.zero_add,Nat.add_zero,qw,qn,B0,reduceIte,reduceEqDiff]
   refine qh (v := .int .i64 v79.1) ((zt (Sep.bk _ _ _ hS91)).trans rfl) ?_
   simp only [qa,qsk,ww,qoe,qf,qe,qy,qb,yo,qd,qsn,q9,B0,reduceIte,reduceEqDiff]
   obtain ⟨sv97,hX95,hk96⟩:=qi hF81
   refine qdt (t:=(decide (v79.1=2)))
     (fun fr' h'=>fr' 0 = .ptr pb0 0∧fr' 1 = .int .i64 replicas_1∧fr' 5=v45∧fr' 6 = .int .i64 s48∧fr' 7 = .ptr b86 0∧Sep h' lo ([Blk1 pb0 [lst cU8 sv97.1.code,
     .int .i64 sv97.1.at_,.int .u64 sv97.1.seed] 91]++(c46++([Blk1 b86 [.int .i64 sv97.2.Kind,.int .i64 sv97.2.K,
     .int .i64 sv97.2.N] 63]++(S0))))) (fun Q98 hN99 hR100 hE101=>⟨fun hc102=>?_,fun hc102=>?_⟩) ?_
   ·rw [iteT hc102] at hX95
    obtain ⟨v103,hx104,hF105⟩:=qi hX95
    simp only [qx7,qe,f67,qd,zd,B0,reduceIte,reduceEqDiff]
    refine yp rfl (yy hW pb0 v79.2.1 9 v103 hx104 (Sep.m1 hS91)) ?_
    rintro _ h106 ⟨rfl,hS107⟩
    simp only [qt,qb,Nat.reduceAdd,Nat.zero_add,Nat.add_zero,qw,zm,B0,reduceIte,reduceEqDiff]
    refine za (us:=[.int .i64 v103.1]) rfl (cs':=[.int .i64 v79.1,.int .i64 0,
      .int .i64 v103.1]) (Sep.m1 hS107) hW rfl rfl (Nat.le_of_ble_eq_true rfl) rfl (fun h108 hS109=>?_)
    simp only [qa,qk,B0,reduceIte,reduceEqDiff]
    have e110:=qj hF105
    subst e110
    exact hN99 _ _ ⟨f67,f68,f69,f70,rfl,(Sep.m2 (Sep.m2 (Sep.dc (Sep.m2 hS109))))⟩
   ·rw [iteF hc102] at hX95
    simp only [qq4,qf,qe,qy,qb,yo,qd,qa,qo9,q9,B0,reduceIte,reduceEqDiff]
    refine q8 (t:=(decide (v79.1=3))) (fun hc111=>?_) (fun hc111=>?_)
    ·rw [iteT hc111] at hX95
     obtain ⟨v112,hx113,hF114⟩:=qi hX95
     simp only [q0c,qe,f67,qd,f68,zd,B0,reduceIte,reduceEqDiff]
     refine yp rfl (yy hW pb0 v79.2.1 replicas_1 v112 hx113 (Sep.m1 hS91)) ?_
     rintro _ h115 ⟨rfl,hS116⟩
     obtain ⟨v117,hx118,hF119⟩:=qi hF114
     simp only [f67,qd,zd,B0,reduceIte,reduceEqDiff]
     refine yp rfl (yy hW pb0 v112.2 4 v117 hx118 hS116) ?_
     rintro _ h120 ⟨rfl,hS121⟩
     simp only [run_build,evp,B0,reduceIte,reduceEqDiff]
     refine qh (v := .agg [.int .i64 3,.int .i64 v112.1,.int .i64 v117.1]) rfl ?_
     simp only [zm,B0,reduceIte,reduceEqDiff]
     refine za (us:=[.int .i64 3,.int .i64 v112.1,.int .i64 v117.1]) rfl (cs':=[.int .i64 3,.int .i64 v112.1,
       .int .i64 v117.1]) (Sep.m1 hS121) hW rfl rfl (Nat.le_of_ble_eq_true rfl) rfl (fun h122 hS123=>?_)
     simp only [qa,qk,B0,reduceIte,reduceEqDiff]
     have e124:=qj hF119
     subst e124
     exact hN99 _ _ ⟨f67,f68,f69,f70,rfl,(Sep.m2 (Sep.m2 (Sep.dc (Sep.m2 hS123))))⟩
    rw [iteF hc111] at hX95
    simp only [qp7,qf,qe,qy,qb,yo,qd,qa,qxk,q9,B0,reduceIte,reduceEqDiff]
    obtain ⟨s125,hX127,hk128⟩:=qi hX95
    refine qdt (t:=(decide (v79.1=1)))
      (fun fr' h'=>fr' 0 = .ptr pb0 0∧fr' 1 = .int .i64 replicas_1∧fr' 5=v45∧fr' 6 = .int .i64 s48∧fr' 7 = .ptr b86 0∧fr' 38 = .bool s125∧Sep h' lo
      ([Blk1 pb0 [lst cU8 v79.2.1.code,.int .i64 v79.2.1.at_,.int .u64 v79.2.1.seed] 91]++(c46++([Blk1 b86 [.int .i64 v79.1,.int .i64 0,
      .int .i64 0] 63]++(S0))))) (fun Q129 hN130 hR131 hE132=>⟨fun hc133=>?_,fun hc133=>?_⟩) ?_
    ·rw [iteT hc133] at hX127
     simp only [zi,qk,B0,reduceIte,reduceEqDiff]
     have e134:=qj hX127
     subst e134
     exact hN130 _ _ ⟨f67,f68,f69,f70,rfl,rfl,(Sep.m2 (Sep.m2 (Sep.dc (Sep.m2 hS91))))⟩
    ·rw [iteF hc133] at hX127
     simp only [qu2,qf,qe,qy,qb,yo,qd,qa,qyz,q9,B0,reduceIte,reduceEqDiff]
     refine q8 (t:=(decide (v79.1=4))) (fun hc135=>?_) (fun hc135=>?_)
     ·rw [iteT hc135] at hX127
      simp only [zi,qk,B0,reduceIte,reduceEqDiff]
      have e136:=qj hX127
      subst e136
      exact hN130 _ _ ⟨f67,f68,f69,f70,rfl,rfl,(Sep.m2 (Sep.m2 (Sep.dc (Sep.m2 hS91))))⟩
     rw [iteF hc135] at hX127
     simp only [qe,qy,qb,yo,qd,qa,qk,B0,reduceIte,reduceEqDiff]
     have e137:=qj hX127
     subst e137
     exact hN130 _ _ ⟨f67,f68,f69,f70,rfl,rfl,(Sep.m2 (Sep.m2 (Sep.dc (Sep.m2 hS91))))⟩
    rintro fr138 h139 ⟨f141,f142,f143,f144,f145,f146,hS140⟩
    unfold qay at hk128
    simp only [qxi,f146,q9,B0,reduceIte,reduceEqDiff]
    refine q8 (t:=s125) (fun hc147=>?_) (fun hc147=>?_)
    ·rw [iteT hc147] at hk128
     obtain ⟨v148,hx149,hF150⟩:=qi hk128
     simp only [qzq,qe,f141,qd,f142,zd,B0,reduceIte,reduceEqDiff]
     refine yp rfl (yy hW pb0 v79.2.1 replicas_1 v148 hx149 hS140) ?_
     rintro _ h151 ⟨rfl,hS152⟩
     simp only [f145,qt,qb,Nat.reduceAdd,Nat.zero_add,Nat.add_zero,qw,zm,B0,reduceIte,reduceEqDiff]
     refine za (us:=[.int .i64 v148.1]) rfl (cs':=[.int .i64 v79.1,.int .i64 v148.1,
       .int .i64 0]) (Sep.m2 hS152) hW rfl rfl (Nat.le_of_ble_eq_true rfl) rfl (fun h153 hS154=>?_)
     simp only [qa,qk,B0,reduceIte,reduceEqDiff]
     have e155:=qj hF150
     subst e155
     exact hN99 _ _ ⟨f141,f142,f143,f144,f145,(Sep.m2 (Sep.m2 hS154))⟩
    rw [iteF hc147] at hk128
    simp only [zi,qk,B0,reduceIte,reduceEqDiff]
    have e156:=qj hk128
    subst e156
    exact hN99 _ _ ⟨f141,f142,f143,f144,f145,(Sep.m2 (Sep.m2 (Sep.m2 hS140)))⟩
   rintro fr158 h159 ⟨f161,f162,f163,f164,f165,hS160⟩
   obtain ⟨s92,s93⟩:=sv97
   dsimp only at *
   unfold ul at hk96
   obtain ⟨v166,hx167,hF168⟩:=qi hk96
   simp only [xb,qrx,qf,qe,f161,qd,zd,B0,reduceIte,reduceEqDiff]
   refine yp rfl (qih hW pb0 s92 60 v166 hx167 hS160) ?_
   rintro _ h169 ⟨rfl,hS170⟩
   simp only [qa,qok,q9,B0,reduceIte,reduceEqDiff]
   obtain ⟨sv176,hX174,hk175⟩:=qi hF168
   refine qdt (t:=v166.1) (fun fr' h'=>fr' 0 = .ptr pb0 0∧fr' 1 = .int .i64 replicas_1∧fr' 5=v45∧fr' 6 = .int .i64 s48∧fr' 7 = .ptr b86 0∧Sep h' lo
     ([Blk1 pb0 [lst cU8 sv176.1.code,.int .i64 sv176.1.at_,.int .u64 sv176.1.seed] 91]++(c46++([Blk1 b86 [.int .i64 sv176.2.Kind,.int .i64 sv176.2.K,
     .int .i64 sv176.2.N] 63]++(S0))))) (fun Q177 hN178 hR179 hE180=>⟨fun hc181=>?_,fun hc181=>?_⟩) ?_
   ·rw [iteT hc181] at hX174
    obtain ⟨v182,hx183,hF184⟩:=qi hX174
    simp only [qph,qe,f161,qd,zd,B0,reduceIte,reduceEqDiff]
    refine yp rfl (yy hW pb0 v166.2 8 v182 hx183 hS170) ?_
    rintro _ h185 ⟨rfl,hS186⟩
    obtain ⟨v187,hx188,hF189⟩:=qi hF184
    simp only [f161,qd,zd,B0,reduceIte,reduceEqDiff]
    refine yp rfl (yy hW pb0 v182.2 6 v187 hx188 hS186) ?_
    rintro _ h190 ⟨rfl,hS191⟩
    obtain ⟨v192,hx193,hF194⟩:=qi hF189
    simp only [qy,qb,qc7,f161,qd,zd,B0,reduceIte,reduceEqDiff]
    refine yp rfl (yy hW pb0 v187.2 40 v192 hx193 hS191) ?_
    rintro _ h195 ⟨rfl,hS196⟩
    simp only [qy,qb,qc7,run_build,evp,B0,reduceIte,reduceEqDiff]
    refine qh (v := .agg [.int .i64 v182.1,.int .i64 (IntKind.wrap .i64 (v187.1 - 1)),.int .i64 (IntKind.wrap .i64 (v192.1 - 1))]) rfl ?_
    simp only [f165,zm,B0,reduceIte,reduceEqDiff]
    refine za (us:=[.int .i64 v182.1,.int .i64 (IntKind.wrap .i64 (v187.1 - 1)),.int .i64 (IntKind.wrap .i64 (v192.1 - 1))]) rfl (cs':=[.int .i64 v182.1,
      .int .i64 (IntKind.wrap .i64 (v187.1 - 1)),
      .int .i64 (IntKind.wrap .i64 (v192.1 - 1))]) (Sep.m2 hS196) hW rfl rfl (Nat.le_of_ble_eq_true rfl) rfl (fun h197 hS198=>?_)
    simp only [qa,qk,B0,reduceIte,reduceEqDiff]
    have e199:=qj hF194
    subst e199
    exact hN178 _ _ ⟨f161,f162,f163,f164,f165,(Sep.m2 (Sep.m2 hS198))⟩
   ·rw [iteF hc181] at hX174
    simp only [zi,qk,B0,reduceIte,reduceEqDiff]
    have e200:=qj hX174
    subst e200
    exact hN178 _ _ ⟨f161,f162,f163,f164,f165,(Sep.m2 (Sep.m2 (Sep.m2 hS170)))⟩
   rintro fr201 h202 ⟨f204,f205,f206,f207,f208,hS203⟩
   obtain ⟨s171,s172⟩:=sv176
   dsimp only at *
   unfold qau at hk175
   simp only [qr6,qe,f206,qd,f208,qn,B0,reduceIte,reduceEqDiff]
   refine qh (v := .agg [.int .i64 s172.Kind,.int .i64 s172.K,.int .i64 s172.N]) ((jg (Sep.bk _ _ _ (Sep.m2 hS203))).trans rfl) ?_
   simp only [kz,evp,B0,reduceIte,reduceEqDiff]
   refine j9 (n:=3) (f:=IsrStep.cells) [s172] hS203 rfl rfl (fun v209 c210 h211 hv212 hS213=>?_)
   simp only [wv,B0,reduceIte,reduceEqDiff]
   obtain ⟨l215,hx216,hF217⟩:=qi hk175
   refine yv (f:=IsrStep.cells) hv47 (Sep.m2 hS213) hW (fun _=>rfl) (fun _=>rfl) (SlF.first hv212 hS213 (fun _=>rfl)) hx216 (fun v218 c219 h220 hv221 hS222=>?_)
   simp only [qd,qa,xb,qe,f207,qy,qb,qc7,qk,B0,reduceIte,reduceEqDiff]
   have e224:=qj hF217
   exact hN59 _ _ _ e224.symm ⟨v218,c219,f204,f205,rfl,rfl,hv221,(Sep.m1 (Sep.dc (Sep.m2 (Sep.dc (Sep.m1 hS222)))))⟩
  rw [iteF hc72] at hF56
  simp only [qcf,qbi,qcl,B0,reduceIte,reduceEqDiff]
  have e227:=qj hF56
  exact hK60 _ _ _ e227.symm ⟨v45,c46,f67,f68,f69,f70,hv47,(Sep.m1 (Sep.m1 hS66))⟩
 rintro ⟨s229,s234,s235⟩ fr236 h237 rfl ⟨v231,c232,f239,f240,f241,f242,hv233,hS238⟩
 dsimp only [jnO] at hk55
 dsimp only at *
 unfold qax at hk55
 simp only [qf,qe,f241,qd,qa,qz,B0,reduceIte,reduceEqDiff]
 have he:=qj hk55
 subst he
 simp only [ze,B0,reduceIte,reduceEqDiff]
 exact ⟨v231,c232,by first | trivial | rfl,hv233,(Sep.m1 hS238)⟩
theorem qgd {W:Nat→Bool}{h:Heap} (hW:∀ b,
  (geL h.length) b→W b=true) (k:Nat) (code_0:List Int) (r:Int × (List IsrStep)) (hF:xh k code_0=some r) : Ret E W 15 [lst cU8 code_0] h
  (fun v h'=>∃ rv1 rc1,v = .tup [.int .i64 r.1,rv1]∧SlF IsrStep.cells 3 63 rv1 r.2 rc1∧Sep h' (geL h.length) (rc1++([]))):=by
 refine Ret.of (fn:=x15) rfl (Run.of ?_)
 unfold xh at hF
 have zf0:zc [lst cU8 code_0] 0=lst cU8 code_0:=rfl
 generalize zc [lst cU8 code_0]=fr0 at zf0 ⊢
 have hS:Sep h (geL h.length) []:=Sep.nil h
 simp only [x15,qf,qe,qd,qa,qv6,zf0,run_build,evp,B0,reduceIte,reduceEqDiff]
 refine qh (v := .agg [lst cU8 code_0,.int .i64 0,.int .u64 0]) rfl ?_
 simp only [wu,B0,reduceIte,reduceEqDiff]
 refine yj (cs:=[lst cU8 code_0,.int .i64 0,.int .u64 0]) hS rfl rfl rfl (fun b1 h2 hS3=>?_)
 obtain ⟨v5,hx6,hF7⟩:=qi hF
 simp only [qd,qa,qzs,qf,qe,zd,B0,reduceIte,reduceEqDiff]
 refine yp rfl (yy hW b1 (L1Cur.mk code_0 0 0) 3 v5 hx6 hS3) ?_
 rintro _ h8 ⟨rfl,hS9⟩
 obtain ⟨v10,hx11,hF12⟩:=qi hF7
 simp only [qy,qb,qao,qd,qa,qvu,qf,qe,zd,B0,reduceIte,reduceEqDiff]
 refine yp rfl (qid hW k b1 v5.2 (IntKind.wrap .i64 ((2:Int)+v5.1)) v10 hx11 hS9) ?_
 rintro v13 h17 ⟨_,c14,rfl,hv15,hS18⟩
 simp only [qd,qa,qz,B0,reduceIte,reduceEqDiff]
 have he:=qj hF12
 subst he
 simp only [qc9,B0,reduceIte,reduceEqDiff]
 exact ⟨v13,c14,by first | trivial | rfl,hv15,(Sep.dc (Sep.m1 hS18))⟩
theorem qio {W:Nat→Bool}{h:Heap} (hW:∀ b,
  (geL h.length) b→W b=true) (replicas_0:Int) (r:Group) (hF:qa7 replicas_0=some r) : Ret E W 65 [.int .i64 replicas_0] h
  (fun v h'=>∃ rv0_2 rc0_2 rv0_4 rc0_4,v = .agg [.int .i64 r.Epoch,.int .i64 r.Leader,rv0_2,.int .i64 r.High,
  rv0_4]∧SlF cI 1 3 rv0_2 r.InStep rc0_2∧SlN Replica.R 3 51 rv0_4 r.Replicas rc0_4∧Sep h' (geL h.length) (rc0_2++(rc0_4++([])))):=by
 refine Ret.of (fn:=x65) rfl (Run.of ?_)
 unfold qa7 at hF
 have zf0:zc [.int .i64 replicas_0] 0 = .int .i64 replicas_0:=rfl
 generalize zc [.int .i64 replicas_0]=fr0 at zf0 ⊢
 have hS:Sep h (geL h.length) []:=Sep.nil h
 simp only [x65,qf,qe,jt,B0,reduceIte,reduceEqDiff]
 refine jc hS (fun b1 h2 hS3=>?_)
 obtain ⟨l5,hx6,hF7⟩:=qi hF
 simp only [qa,qyl,qf,qe,zf0,qd,qmx,B0,reduceIte,reduceEqDiff]
 refine qj8 (R:=Replica.R) (e:=(Replica.mk [] (0:Int) (0:Int))) (z:=[.nil,.int .i64 0,
   .int .i64 0]) hS3 hx6 (Replica.RI (x:=(Replica.mk [] 0 0)) SlF.nil) rfl (fun v8 c9 h10 hv11 hS12=>?_)
 simp only [run_build,evp,B0,reduceIte,reduceEqDiff]
 refine qh (v := .agg [.int .i64 0,.int .i64 0,.nil,.int .i64 0,v8]) (qdk (qb8 (us:=[v8]) (vs:=[.int .i64 0,.int .i64 0,.nil,.int .i64 0,
   v8]) (kr (SlN.one hv11)) rfl (Nat.le_of_ble_eq_true rfl) (qm (SlN.one hv11) zq) rfl qhe)) ?_
 simp only [jt,B0,reduceIte,reduceEqDiff]
 refine jc hS12 (fun b14 h15 hS16=>?_)
 simp only [zm,B0,reduceIte,reduceEqDiff]
 refine za (us:=[.int .i64 0,.int .i64 0,.nil,.int .i64 0,v8]) rfl (cs':=[.int .i64 0,.int .i64 0,.nil,.int .i64 0,
   v8]) hS16 hW rfl (qm rfl (qm rfl (qm rfl (qm rfl (qm (SlN.one hv11) zq))))) (Nat.le_of_ble_eq_true rfl) rfl (fun h18 hS19=>?_)
 simp only [qa,qxl,qf,qe,zf0,qd,B0,reduceIte,reduceEqDiff]
 obtain ⟨oc32,hX34,hk35⟩:=ki hF7
 simp only [quc]
 refine qdf (σ:=Group) (fun i30 s70=>uh l5 i30 s70) (fun s fr' h'=>∃ v27 c28,
   fr' 2 = .ptr b1 0∧fr' 3 = .ptr b14 0∧SlF cI 1 3 v27 s.InStep c28∧Sep h' (geL h.length) ([Blk1 b1 [.int .i64 0,.int .i64 0,.nil,.int .i64 0,
   .nil] 29]++([Blk1 b14 [.int .i64 s.Epoch,.int .i64 s.Leader,v27,.int .i64 s.High,v8] 29]++(c28++(c9++([])))))) hX34 ⟨.nil,[],rfl,rfl,SlF.nil,
   ((Sep.m2 (Sep.m1 (Sep.m1 hS19))) : Sep _ (geL h.length) ([Blk1 b1 [.int .i64 0,.int .i64 0,.nil,.int .i64 0,.nil] 29]++([Blk1 b14 [.int .i64 0,.int .i64 0,.nil,
   .int .i64 0,v8] 29]++(c9++([])))))⟩ (by simp only [B0,reduceIte,reduceEqDiff]) (by simp only [B0,reduceIte,
   reduceEqDiff]) (fun _ _ _ h=>h) rfl rfl (fun _ _ _ _ h=>h) (fun _ _ _ _ h=>h) (fun _ _ _ _ h=>h) (by decide) ?_ ?_
 ·rintro i30 s25 fr44 h45 hx49 ⟨v27,c28,f47,f48,hv29,hS46⟩ f50 f51 oc33 hF36 hr37 Q38 hN39 hB43 hK40 hR41 hE42
  unfold uh at hF36
  simp only [qzh,qf,qe,f50,qd,qa,qza,f48,qt,qb,Nat.reduceAdd,Nat.zero_add,Nat.add_zero,qw,qn,B0,reduceIte,
    reduceEqDiff]
  refine qh (v:=v27) ((zt (Sep.bk _ _ _ (Sep.m1 hS46))).trans rfl) ?_
  simp only [qd,kz,evp,B0,reduceIte,reduceEqDiff]
  refine j9 (n:=1) (f:=cI) [(i30:Int)] hS46 rfl rfl (fun v52 c53 h54 hv55 hS56=>?_)
  simp only [wv,B0,reduceIte,reduceEqDiff]
  obtain ⟨l58,hx59,hF60⟩:=qi hF36
  refine yv (f:=cI) hv29 (Sep.m3 hS56) hW (fun _=>rfl) (fun _=>rfl) (SlF.first hv55 hS56 (fun _=>rfl)) hx59 (fun v61 c62 h63 hv64 hS65=>?_)
  simp only [f48,qt,qb,Nat.reduceAdd,Nat.zero_add,Nat.add_zero,qw,zm,B0,reduceIte,reduceEqDiff]
  refine za (us:=[v61]) (kr (SlF.one hv64)) (cs':=[.int .i64 s25.Epoch,.int .i64 s25.Leader,v61,.int .i64 s25.High,
    v8]) (Sep.m3 hS65) hW rfl (qm (SlF.one hv64) zq) (Nat.le_of_ble_eq_true rfl) rfl (fun h67 hS68=>?_)
  simp only [qa,qk,B0,reduceIte,reduceEqDiff]
  have e69:=qj hF60
  exact hN39 _ _ _ e69.symm ⟨v61,c62,f47,f48,hv64,(Sep.m3 (Sep.m2 (Sep.m2 (Sep.m3 (Sep.dc (Sep.m2 hS68))))))⟩ (f50) (f51)
 rintro s71 fr76 h77 rfl ⟨v73,c74,f79,f80,hv75,hS78⟩
 dsimp only [jnO] at hk35
 unfold qer at hk35
 simp only [qf,qe,f80,qn,B0,reduceIte,reduceEqDiff]
 refine qh (v := .agg [.int .i64 s71.Epoch,.int .i64 s71.Leader,v73,.int .i64 s71.High,v8]) ((jg (Sep.bk _ _ _ (Sep.m1 hS78))).trans rfl) ?_
 simp only [f79,zm,B0,reduceIte,reduceEqDiff]
 refine za (us:=[.int .i64 s71.Epoch,.int .i64 s71.Leader,v73,.int .i64 s71.High,v8]) rfl (cs':=[.int .i64 s71.Epoch,.int .i64 s71.Leader,v73,
   .int .i64 s71.High,v8]) hS78 hW rfl (qm rfl (qm rfl (qm (SlF.one hv75) (qm rfl (qm (SlN.one hv11) zq))))) (Nat.le_of_ble_eq_true rfl) rfl
   (fun h81 hS82=>?_)
 simp only [qa,qz,B0,reduceIte,reduceEqDiff]
 have he:=qj hk35
 subst he
 refine qcv (bb:=b1) (oo:=0) (v := .agg [.int .i64 s71.Epoch,.int .i64 s71.Leader,v73,.int .i64 s71.High,v8]) (by simp only [f79,B0,reduceIte,
   reduceEqDiff]) ((jg (Sep.bk _ _ _ hS82)).trans rfl) ?_
 exact ⟨v73,c74,v8,c9,by first | trivial | rfl,hv75,hv11,(Sep.m1 (Sep.m1 (Sep.dc ((Sep.dc (hS82))))))⟩
theorem qfb {W:Nat→Bool}{h:Heap} (hW:∀ b,
  (geL h.length) b→W b=true) (x_0:Int) (r:Bool) (hF:some (k5 x_0)=some r) : Ret E W 102 [.int .i64 x_0] h
  (fun v h'=>cut h.length h' E.sz false 9 v=some (.bool r)):=by
 refine Ret.of (fn:=qn3) rfl (Run.of ?_)
 unfold k5 at hF
 have zf0:zc [.int .i64 x_0] 0 = .int .i64 x_0:=rfl
 generalize zc [.int .i64 x_0]=fr0 at zf0 ⊢
 have hS:Sep h (geL h.length) []:=Sep.nil h
 simp only [qn3,qf,qe,qd,qa,qqj,zf0,qy,qb,xk,qz,B0,reduceIte,reduceEqDiff]
 have he:=qj hF
 subst he
 simp only [ze,B0,reduceIte,reduceEqDiff]
 exact rfl
theorem qji {W:Nat→Bool}{h:Heap} (hW:∀ b,
  (geL h.length) b→W b=true) (x_0:Int) (y_1:Int) (r:Bool) (hF:some (qat x_0 y_1)=some r) : Ret E W 96 [.int .i64 x_0,
  .int .i64 y_1] h (fun v h'=>cut h.length h' E.sz false 9 v=some (.bool r)):=by
 refine Ret.of (fn:=x96) rfl (Run.of ?_)
 unfold qat at hF
 have zf0:zc [.int .i64 x_0,.int .i64 y_1] 0 = .int .i64 x_0:=rfl
 have zf1:zc [.int .i64 x_0,.int .i64 y_1] 1 = .int .i64 y_1:=rfl
 generalize zc [.int .i64 x_0,.int .i64 y_1]=fr0 at zf0 zf1 ⊢
 have hS:Sep h (geL h.length) []:=Sep.nil h
 simp only [x96,qf,qe,qd,qa,qyr,zf0,zd,B0,reduceIte,reduceEqDiff]
 refine j6 rfl (ql qq zh) (qfb (fun b hb=>decide_eq_true hb) x_0 _ rfl) ?_
 simp only [qd,B0,reduceIte,reduceEqDiff]
 refine z8 4 (fun fr' h'=>Sep h' (geL h.length) ([])∧fr' 11 = .bool ((k5 x_0)&&(!(k5 y_1)))∧fr' 0 = .int .i64 x_0∧fr' 1 = .int .i64 y_1)
   (fun Q1 hN2=>?_) ?_
 ·simp only [List.take_succ_cons,List.take_zero]
  simp only [qc (g:=7),B0,reduceIte,reduceEqDiff]
  refine zb (t:=(k5 x_0)) (fun hg3=>?_) (fun hg3=>?_)
  ·simp only [hg3,qc (g:=7),zk,zf1,qd,zd,B0,reduceIte,reduceEqDiff]
   refine j6 rfl (ql qq zh) (qfb (fun b hb=>decide_eq_true hb) y_1 _ rfl) ?_
   simp only [hg3,qc (g:=7),zk,jy,qb,kw,qu,zf,qa,qk,B0,reduceIte,reduceEqDiff]
   exact hN2 _ _ ⟨hS,by rw [x8 hg3]; simp only [B0,reduceIte,reduceEqDiff],zf0,zf1⟩
  ·simp only [hg3,qc (g:=7),j5,qu,qb,zg,qa,qk,B0,reduceIte,reduceEqDiff]
   exact hN2 _ _ ⟨hS,by rw [xw hg3]; simp only [B0,reduceIte,reduceEqDiff],zf0,zf1⟩
 rintro fr4 h8 ⟨hS9,f5,f6,f7⟩
 simp only [List.drop_succ_cons,List.drop_zero]
 simp only [f5,qd,B0,reduceIte,reduceEqDiff]
 refine z8 4 (fun fr' h'=>Sep h' (geL h.length) ([])∧fr' 16 = .bool (((k5 x_0)&&(!(k5 y_1)))||(decide (x_0<y_1)))) (fun Q10 hN11=>?_) ?_
 ·simp only [List.take_succ_cons,List.take_zero]
  simp only [qc (g:=12),B0,reduceIte,reduceEqDiff]
  refine zb (t:=((k5 x_0)&&(!(k5 y_1)))) (fun hg12=>?_) (fun hg12=>?_)
  ·simp only [hg12,qc (g:=12),zv,qu,qb,zf,qa,qk,B0,reduceIte,reduceEqDiff]
   exact hN11 _ _ ⟨hS9,by rw [orT hg12]; simp only [B0,reduceIte,reduceEqDiff]⟩
  ·simp only [hg12,qc (g:=12),qr,f6,qd,f7,qy,qb,qav,qu,zg,qa,qk,B0,reduceIte,reduceEqDiff]
   exact hN11 _ _ ⟨hS9,by rw [orF hg12]; simp only [B0,reduceIte,reduceEqDiff]⟩
 rintro fr13 h15 ⟨hS16,f14⟩
 simp only [List.drop_succ_cons,List.drop_zero]
 simp only [f14,qd,qa,qz,B0,reduceIte,reduceEqDiff]
 have he:=qj hF
 subst he
 simp only [ze,B0,reduceIte,reduceEqDiff]
 exact rfl
theorem qdp {W:Nat→Bool}{h:Heap} (hW:∀ b,
  (geL h.length) b→W b=true) (x_0:Int) (r:Bool) (hF:some (yu x_0)=some r) : Ret E W 97 [.int .i64 x_0] h
  (fun v h'=>cut h.length h' E.sz false 9 v=some (.bool r)):=by
 refine Ret.of (fn:=x97) rfl (Run.of ?_)
 unfold yu at hF
 have zf0:zc [.int .i64 x_0] 0 = .int .i64 x_0:=rfl
 generalize zc [.int .i64 x_0]=fr0 at zf0 ⊢
 have hS:Sep h (geL h.length) []:=Sep.nil h
 simp only [x97,qf,qe,qd,qa,q0a,zf0,qy,qb,xk,qz,B0,reduceIte,reduceEqDiff]
 have he:=qj hF
 subst he
 simp only [ze,B0,reduceIte,reduceEqDiff]
 exact rfl
theorem qee {W:Nat→Bool}{h:Heap} (hW:∀ b,
  (geL h.length) b→W b=true) (k:Nat) (x_0:List Int) (target_1:Int) (r:Int × Bool) (hF:y9 k x_0 target_1=some r) : Ret E W 89 [lst cI x_0,
  .int .i64 target_1] h (fun v h'=>cut h.length h' E.sz false 9 v=some (.tup [.int .i64 r.1,.bool r.2])):=by
 refine Ret.of (fn:=x89) rfl (Run.of ?_)
 unfold y9 at hF
 have zf0:zc [lst cI x_0,.int .i64 target_1] 0=lst cI x_0:=rfl
 have zf1:zc [lst cI x_0,.int .i64 target_1] 1 = .int .i64 target_1:=rfl
 generalize zc [lst cI x_0,.int .i64 target_1]=fr0 at zf0 zf1 ⊢
 have hS:Sep h (geL h.length) []:=Sep.nil h
 simp only [x89,qf,qe,qd,qa,qql,zf0,zw,qb,jh,qzf,qy1,B0,reduceIte,reduceEqDiff]
 obtain ⟨oc7,hX9,hk10⟩:=ki hF
 simp only [qw0]
 refine qeg (σ:=Int × Int) (fun s36=>ye x_0 target_1 s36.1 s36.2)
   (fun s fr' h'=>fr' 0=lst cI x_0∧fr' 1 = .int .i64 target_1∧fr' 6 = .int .i64 (List.length x_0:Int)∧fr' 7 = .int .i64 s.1∧fr' 8 = .int .i64 s.2∧Sep h'
   (geL h.length) ([])) hX9 ⟨zf0,zf1,rfl,rfl,rfl,hS⟩ (fun _ _ _ h=>h) ?_ ?_
 ·rintro ⟨s3,s4⟩ fr19 h20 ⟨f22,f23,f24,f25,f26,hS21⟩ oc8 hF11 hr12 Q13 hN14 hK15 hR16 hE17
  dsimp only at *
  unfold ye at hF11
  simp only [qu8,qf,qe,f25,qd,f26,qy,qb,qav,qa,q9,B0,reduceIte,reduceEqDiff]
  refine q8 (t:=(decide (s3<s4))) (fun hc28=>?_) (fun hc28=>?_)
  ·rw [iteT hc28] at hF11
   obtain ⟨x29,hx30,hF31⟩:=qi hF11
   simp only [zi,qv0,ww,qug,qf,qe,f25,qd,f26,qy,qb,qao,qhg,qgu,qnc (n:=1) (by decide),qa,
     qy7,f22,jz,B0,reduceIte,reduceEqDiff]
   refine qh (v := .ref (cI x29) 0) (y8 hx30 rfl) ?_
   simp only [qn,B0,reduceIte,reduceEqDiff]
   refine qh (v := .int .i64 x29) rfl ?_
   simp only [f23,qd,zd,B0,reduceIte,reduceEqDiff]
   refine j6 rfl (ql qq (ql qq zh)) (qji (fun b hb=>decide_eq_true hb) x29 target_1 _ rfl) ?_
   simp only [qa,qzy,q9,B0,reduceIte,reduceEqDiff]
   refine q8 (t:=(qat x29 target_1)) (fun hc32=>?_) (fun hc32=>?_)
   ·rw [iteT hc32] at hF31
    simp only [qe,qd,qy,qb,qao,qa,xb,qk,B0,reduceIte,reduceEqDiff]
    have e33:=qj hF31
    exact hN14 _ _ _ e33.symm ⟨f22,f23,f24,rfl,f26,hS21⟩
   rw [iteF hc32] at hF31
   simp only [qe,qd,qa,xb,qk,B0,reduceIte,reduceEqDiff]
   have e34:=qj hF31
   exact hN14 _ _ _ e34.symm ⟨f22,f23,f24,f25,rfl,hS21⟩
  rw [iteF hc28] at hF11
  simp only [qcf,qbi,qcl,B0,reduceIte,reduceEqDiff]
  have e35:=qj hF11
  exact hK15 _ _ _ e35.symm ⟨f22,f23,f24,f25,f26,hS21⟩
 rintro ⟨s37,s38⟩ fr39 h40 rfl ⟨f42,f43,f44,f45,f46,hS41⟩
 dsimp only [jnO] at hk10
 dsimp only at *
 unfold x5 at hk10
 simp only [q0l,qf,qe,f45,qd,f44,qy,qb,qav,B0,reduceIte,reduceEqDiff]
 obtain ⟨v50,hx51,hF52⟩:=qi hk10
 refine z8 18 (fun fr' h'=>Sep h' (geL h.length) ([])∧fr' 53 = .bool v50∧fr' 31 = .int .i64 s37) (fun Q47 hN48=>?_) ?_
 ·simp only [List.take_succ_cons,List.take_zero]
  simp only [qc (g:=35),B0,reduceIte,reduceEqDiff]
  refine zb (t:=(decide (s37<(List.length x_0:Int)))) (fun hg49=>?_) (fun hg49=>?_)
  ·rw [iteT hg49] at hx51
   obtain ⟨x53,hx54,hF55⟩:=qi hx51
   simp only [hg49,qc (g:=35),zk,f42,qd,f45,jz,B0,reduceIte,reduceEqDiff]
   refine qh (v := .ref (cI x53) 0) (y8 hx54 rfl) ?_
   simp only [hg49,qc (g:=35),zk,qn,B0,reduceIte,reduceEqDiff]
   refine qh (v := .int .i64 x53) rfl ?_
   simp only [hg49,qc (g:=35),zk,f43,qd,qy,qb,yo,B0,reduceIte,reduceEqDiff]
   obtain ⟨v59,hx60,hF61⟩:=qi hF55
   refine z8 10 (fun fr' h'=>Sep h' (geL h.length) ([])∧fr' 52 = .bool v59∧fr' 31 = .int .i64 s37∧fr' 35 = .bool (decide (s37<(List.length x_0:Int))))
     (fun Q56 hN57=>?_) ?_
   ·simp only [List.take_succ_cons,List.take_zero]
    simp only [qc (g:=42),B0,reduceIte,reduceEqDiff]
    refine zb (t:=(decide (x53=target_1))) (fun hg58=>?_) (fun hg58=>?_)
    ·rw [iteT hg58] at hx60
     simp only [hg58,qc (g:=42),zv,qc (g:=48),qgv,hg49,qc (g:=35),zk,qu,qb,zf,qa,
       qk,B0,reduceIte,reduceEqDiff]
     have e62:=qj hx60
     exact hN57 _ _ ⟨hS41,by rw [←e62]; simp only [B0,reduceIte,reduceEqDiff],rfl,by simp only [hg49,B0,reduceIte,reduceEqDiff]⟩
    ·rw [iteF hg58] at hx60
     obtain ⟨x63,hx64,hF65⟩:=qi hx60
     simp only [hg58,qc (g:=42),qr,f42,qd,f45,jz,B0,reduceIte,reduceEqDiff]
     refine qh (v := .ref (cI x63) 0) (y8 hx64 rfl) ?_
     simp only [hg58,qc (g:=42),qr,qn,B0,reduceIte,reduceEqDiff]
     refine qh (v := .int .i64 x63) rfl ?_
     simp only [hg58,qc (g:=42),qr,zd,B0,reduceIte,reduceEqDiff]
     refine j6 rfl (ql qq zh) (qdp (fun b hb=>decide_eq_true hb) x63 _ rfl) ?_
     simp only [hg58,qc (g:=42),qr,qd,B0,reduceIte,reduceEqDiff]
     refine z8 3 (fun fr' h'=>Sep h' (geL h.length) ([])∧fr' 51 = .bool ((yu x63) &&
       (yu target_1))∧fr' 31 = .int .i64 s37∧fr' 35 = .bool (decide (s37<(List.length x_0:Int)))∧fr' 42 = .bool (decide (x53=target_1)))
       (fun Q66 hN67=>?_) ?_
     ·simp only [List.take_succ_cons,List.take_zero]
      simp only [qc (g:=48),B0,reduceIte,reduceEqDiff]
      refine zb (t:=(yu x63)) (fun hg68=>?_) (fun hg68=>?_)
      ·simp only [hg68,qc (g:=48),zk,f43,qd,zd,B0,reduceIte,reduceEqDiff]
       refine j6 rfl (ql qq zh) (qdp (fun b hb=>decide_eq_true hb) target_1 _ rfl) ?_
       simp only [hg58,qc (g:=42),qr,hg68,qu,qb,zf,qa,qk,B0,reduceIte,reduceEqDiff]
       exact hN67 _ _ ⟨hS41,by rw [x8 hg68]; simp only [B0,reduceIte,reduceEqDiff],rfl,by simp only [hg49,B0,reduceIte,reduceEqDiff],by simp only [hg58,B0,
         reduceIte,reduceEqDiff]⟩
      ·simp only [hg68,qc (g:=48),j5,hg58,qc (g:=42),qr,qu,qb,zg,qa,qk,B0,reduceIte,
        reduceEqDiff]
       exact hN67 _ _ ⟨hS41,by rw [xw hg68]; simp only [B0,reduceIte,reduceEqDiff],rfl,by simp only [hg49,B0,reduceIte,reduceEqDiff],by simp only [hg58,B0,
         reduceIte,reduceEqDiff]⟩
     rintro fr69 h74 ⟨hS75,f70,f71,f72,f73⟩
     simp only [List.drop_succ_cons,List.drop_zero]
     simp only [f72,hg49,qc (g:=35),zk,f73,hg58,qu,qb,zg,f70,qa,qk,B0,reduceIte,reduceEqDiff]
     have e76:=qj hF65
     exact hN57 _ _ ⟨hS75,by rw [←e76]; simp only [B0,reduceIte,reduceEqDiff],f71,by simp only [f72,hg49,B0,reduceIte,reduceEqDiff]⟩
   rintro fr77 h81 ⟨hS82,f78,f79,f80⟩
   simp only [List.drop_succ_cons,List.drop_zero]
   simp only [f80,hg49,qu,qb,zf,f78,qa,qk,B0,reduceIte,reduceEqDiff]
   have e83:=qj hF61
   exact hN48 _ _ ⟨hS82,by rw [←e83]; simp only [B0,reduceIte,reduceEqDiff],f79⟩
  ·rw [iteF hg49] at hx51
   simp only [hg49,qc (g:=35),j5,qc (g:=42),qgv,qc (g:=48),qu,qb,zg,qa,qk,B0,reduceIte,
     reduceEqDiff]
   have e84:=qj hx51
   exact hN48 _ _ ⟨hS41,by rw [←e84]; simp only [B0,reduceIte,reduceEqDiff],rfl⟩
 rintro fr85 h88 ⟨hS89,f86,f87⟩
 simp only [List.drop_succ_cons,List.drop_zero]
 simp only [f87,qd,f86,qa,qz,B0,reduceIte,reduceEqDiff]
 have he:=qj hF52
 subst he
 simp only [qc9,B0,reduceIte,reduceEqDiff]
 exact qjr (ql rfl (ql rfl zh))
theorem qgq {W:Nat→Bool}{h:Heap}{lo:Nat→Prop}{S0:List Obj} (hW:∀ b,
  lo b→W b=true) (pv0:XV) (pc0:List Obj) (s_0:List Int) (ph0:SlF cI 1 3 pv0 s_0 pc0) (i_1:Int) (j_2:Int) (r:List Int)
  (hF:qb1 s_0 i_1 j_2=some r) (hS:Sep h lo (pc0++S0)) : Ret E W 90 [pv0,.int .i64 i_1,.int .i64 j_2] h (fun v h'=>∃ rv0 rc0,
  v=rv0∧SlF cI 1 3 rv0 r rc0∧Sep h' lo (rc0++S0)):=q2r (f:=cI) (n:=1) (ty:=3) (bytes:=8) (z:=[(.int .i64 0)]) rfl (fun _=>rfl)
  (fun _=>rfl) rfl rfl rfl hW ph0 hF hS
end Go.Proofs.Ytefgfcalgjmhjaa.X
namespace Go.Proofs.Ytefgfcalgjmhjaa.X
open Go
open Nat (reduceEqDiff)
theorem qhj {W:Nat→Bool}{h:Heap}{lo:Nat→Prop}{S0:List Obj} (hW:∀ b,
  lo b→W b=true) (k:Nat) (pb0:Nat) (v_0:Group) (pv0_2:XV) (pc0_2:List Obj) (ph0_2:SlF cI 1 3 pv0_2 v_0.InStep pc0_2) (pv0_4:XV) (pc0_4:List Obj)
  (ph0_4:SlN Replica.R 3 51 pv0_4 v_0.Replicas pc0_4) (v_1:IsrStep) (r:Bool × Group) (hF:u5 k v_0 v_1=some r) (hS:Sep h lo
  ([Blk1 pb0 [.int .i64 v_0.Epoch,.int .i64 v_0.Leader,pv0_2,.int .i64 v_0.High,pv0_4] 29]++(pc0_2++(pc0_4++(S0))))) : Ret E W 66 [.ptr pb0 0,
  .agg [.int .i64 v_1.Kind,.int .i64 v_1.K,.int .i64 v_1.N]] h (fun v h'=>∃ iv0_2 ic0_2 ic0_4,
  v = .bool r.1∧SlF cI 1 3 iv0_2 r.2.InStep ic0_2∧SlN Replica.R 3 51 pv0_4 r.2.Replicas ic0_4∧Sep h' lo ([Blk1 pb0 [.int .i64 r.2.Epoch,.int .i64 r.2.Leader,iv0_2,
  .int .i64 r.2.High,pv0_4] 29]++(ic0_2++(ic0_4++(S0))))):=by
 refine Ret.of (fn:=x66) rfl (Run.of ?_)
 unfold u5 at hF
 have zf0:zc [.ptr pb0 0,.agg [.int .i64 v_1.Kind,.int .i64 v_1.K,.int .i64 v_1.N]] 0 = .ptr pb0 0:=rfl
 have zf1:zc [.ptr pb0 0,.agg [.int .i64 v_1.Kind,.int .i64 v_1.K,.int .i64 v_1.N]] 1 = .agg [.int .i64 v_1.Kind,.int .i64 v_1.K,.int .i64 v_1.N]:=rfl
 generalize zc [.ptr pb0 0,.agg [.int .i64 v_1.Kind,.int .i64 v_1.K,.int .i64 v_1.N]]=fr0 at zf0 zf1 ⊢
 simp only [x66,qf,qe,wu,zf1,B0,reduceIte,reduceEqDiff]
 refine yj (cs:=[.int .i64 v_1.Kind,.int .i64 v_1.K,.int .i64 v_1.N]) hS rfl rfl rfl (fun b1 h2 hS3=>?_)
 simp only [qd,qa,B0,reduceIte,reduceEqDiff]
 refine jm hS3 hW (by simp only [B0,reduceIte,reduceEqDiff]) (fun h5 hS6=>?_)
 simp only [jb,qqz,qf,qe,qt,qb,Nat.reduceAdd,Nat.zero_add,Nat.add_zero,qv,qn,B0,reduceIte,reduceEqDiff]
 refine qh (v := .int .i64 v_1.Kind) rfl ?_
 simp only [qy,qb,xk,qd,B0,reduceIte,reduceEqDiff]
 refine z8 4 (fun fr' h'=>Sep h' lo ([Blk1 pb0 [.int .i64 v_0.Epoch,.int .i64 v_0.Leader,pv0_2,.int .i64 v_0.High,
   pv0_4] 29]++(pc0_2++(pc0_4++(S0))))∧fr' 19 = .bool ((decide (v_1.Kind≠2))&&(decide (v_1.Kind≠3)))∧fr' 0 = .ptr pb0 0∧fr' 3 = .ref [.int .i64 v_1.Kind,
   .int .i64 v_1.K,.int .i64 v_1.N] 0) (fun Q7 hN8=>?_) ?_
 ·simp only [List.take_succ_cons,List.take_zero]
  simp only [qc (g:=15),B0,reduceIte,reduceEqDiff]
  refine zb (t:=(decide (v_1.Kind≠2))) (fun hg9=>?_) (fun hg9=>?_)
  ·simp only [hg9,qc (g:=15),zk,qt,qb,Nat.reduceAdd,Nat.zero_add,Nat.add_zero,qv,qn,B0,reduceIte,reduceEqDiff]
   refine qh (v := .int .i64 v_1.Kind) rfl ?_
   simp only [hg9,qc (g:=15),zk,qy,qb,xk,qu,zf,qa,qk,B0,reduceIte,reduceEqDiff]
   exact hN8 _ _ ⟨(Sep.m2 (Sep.m2 (Sep.m2 hS6))),by rw [x8 hg9]; simp only [B0,reduceIte,reduceEqDiff],zf0,rfl⟩
  ·simp only [hg9,qc (g:=15),j5,qu,qb,zg,qa,qk,B0,reduceIte,reduceEqDiff]
   exact hN8 _ _ ⟨(Sep.m2 (Sep.m2 (Sep.m2 hS6))),by rw [xw hg9]; simp only [B0,reduceIte,reduceEqDiff],zf0,rfl⟩
 rintro fr10 h14 ⟨hS15,f11,f12,f13⟩
 simp only [List.drop_succ_cons,List.drop_zero]
 simp only [f11,qd,B0,reduceIte,reduceEqDiff]
 refine z8 4 (fun fr' h'=>Sep h' lo ([Blk1 pb0 [.int .i64 v_0.Epoch,.int .i64 v_0.Leader,pv0_2,.int .i64 v_0.High,
   pv0_4] 29]++(pc0_2++(pc0_4++(S0))))∧fr' 24 = .bool (((decide (v_1.Kind≠2))&&(decide (v_1.Kind≠3)))&&(decide
   (v_1.N≠0)))∧fr' 0 = .ptr pb0 0∧fr' 3 = .ref [.int .i64 v_1.Kind,.int .i64 v_1.K,.int .i64 v_1.N] 0) (fun Q16 hN17=>?_) ?_
 ·simp only [List.take_succ_cons,List.take_zero]
  simp only [qc (g:=20),B0,reduceIte,reduceEqDiff]
  refine zb (t:=((decide (v_1.Kind≠2))&&(decide (v_1.Kind≠3)))) (fun hg18=>?_) (fun hg18=>?_)
  ·simp only [hg18,qc (g:=20),zk,f13,qt,qb,Nat.reduceAdd,Nat.zero_add,Nat.add_zero,qv,qn,B0,reduceIte,reduceEqDiff]
   refine qh (v := .int .i64 v_1.N) rfl ?_
   simp only [hg18,qc (g:=20),zk,qy,qb,xk,qu,zf,qa,qk,B0,reduceIte,reduceEqDiff]
   exact hN17 _ _ ⟨(Sep.m2 (Sep.m2 (Sep.m2 hS15))),by rw [x8 hg18]; simp only [B0,reduceIte,reduceEqDiff],f12,f13⟩
  ·simp only [hg18,qc (g:=20),j5,qu,qb,zg,qa,qk,B0,reduceIte,reduceEqDiff]
   exact hN17 _ _ ⟨(Sep.m2 (Sep.m2 (Sep.m2 hS15))),by rw [xw hg18]; simp only [B0,reduceIte,reduceEqDiff],f12,f13⟩
 rintro fr19 h23 ⟨hS24,f20,f21,f22⟩
 simp only [List.drop_succ_cons,List.drop_zero]
 simp only [qa,f20,q9,B0,reduceIte,reduceEqDiff]
 refine q8 (t:=(((decide (v_1.Kind≠2))&&(decide (v_1.Kind≠3)))&&(decide (v_1.N≠0)))) (fun hc25=>?_) (fun hc25=>?_)
 ·rw [iteT hc25] at hF
  simp only [qf,qe,qd,qa,qz,B0,reduceIte,reduceEqDiff]
  have he:=qj hF
  subst he
  simp only [ze,B0,reduceIte,reduceEqDiff]
  exact ⟨pv0_2,pc0_2,pc0_4,by first | trivial | rfl,ph0_2,ph0_4,(Sep.m2 (Sep.m2 (Sep.m2 hS24)))⟩
 rw [iteF hc25] at hF
 simp only [zi,qpo,qf,jf,f22,zr,qg,Nat.reduceAdd,Nat.zero_add,Nat.add_zero,qv,zl,B0,reduceIte,reduceEqDiff]
 refine qp (v := .int .i64 v_1.K) rfl ?_
 simp only [f21,zn,qg,ko,zu,zr,Nat.reduceAdd,Nat.zero_add,Nat.add_zero,qw,zl,B0,reduceIte,reduceEqDiff]
 refine qp (v:=pv0_4) ((zt (Sep.bk _ _ _ hS24)).trans rfl) ?_
 simp only [qdw,qg,SlN.len ph0_4,yd,qc7,wl,B0,reduceIte,reduceEqDiff]
 refine qdv rfl (ql qq (ql qq (ql qq zh))) (wj (fun b hb=>decide_eq_true hb) v_1.K 0 (IntKind.wrap .i64
   ((List.length v_0.Replicas:Int) - 1)) _ rfl) ?_
 simp only [qf7,qg,kw,qx,q9,B0,reduceIte,reduceEqDiff]
 refine q8 (t:=(!(zp v_1.K 0 (IntKind.wrap .i64 ((List.length v_0.Replicas:Int) - 1))))) (fun hc26=>?_) (fun hc26=>?_)
 ·rw [iteT hc26] at hF
  simp only [qf,qe,qd,qa,qz,B0,reduceIte,reduceEqDiff]
  have he:=qj hF
  subst he
  simp only [ze,B0,reduceIte,reduceEqDiff]
  exact ⟨pv0_2,pc0_2,pc0_4,by first | trivial | rfl,ph0_2,ph0_4,(Sep.m2 (Sep.m2 (Sep.m2 hS24)))⟩
 rw [iteF hc26] at hF
 simp only [zi,qpf,qf,jf,f21,zn,qg,ko,zu,zr,Nat.reduceAdd,Nat.zero_add,Nat.add_zero,qw,zl,B0,reduceIte,
   reduceEqDiff]
 refine qp (v:=pv0_2) ((zt (Sep.bk _ _ _ hS24)).trans rfl) ?_
 simp only [f22,zr,qg,Nat.reduceAdd,Nat.zero_add,Nat.add_zero,qv,zl,B0,reduceIte,reduceEqDiff]
 refine qp (v := .int .i64 v_1.K) rfl ?_
 obtain ⟨v27,hx28,hF29⟩:=qi hF
 simp only [wl,B0,reduceIte,reduceEqDiff]
 refine qdv rfl (ql (SlF.snap ph0_2 (Sep.m1 hS24) rfl (fun _=>rfl) (fun _=>rfl)) (ql qq zh)) (qee
   (fun b hb=>decide_eq_true hb) k v_0.InStep v_1.K v27 hx28) ?_
 simp only [zn,qg,qpi,qa6,qa4,qx,qom,qf,jf,f21,ko,zu,zr,Nat.reduceAdd,Nat.zero_add,Nat.add_zero,qw,
   zl,B0,reduceIte,reduceEqDiff]
 refine qp (v:=pv0_4) ((zt (Sep.bk _ _ _ hS24)).trans rfl) ?_
 simp only [f22,zr,qg,Nat.reduceAdd,Nat.zero_add,Nat.add_zero,qv,zl,B0,reduceIte,reduceEqDiff]
 refine qp (v := .int .i64 v_1.K) rfl ?_
 obtain ⟨x30,hx31,hF32⟩:=qi hF29
 simp only [wt,B0,reduceIte,reduceEqDiff]
 obtain ⟨b33,hb34⟩:=SlN.isrow ph0_4 (uf hx31)
 refine qp (SlN.ia ph0_4 hb34 hx31) ?_
 obtain ⟨c35,cs36,os37,hv38,hR39,hS40⟩:=SlG.opn (SlN.toG ph0_4 hb34 Replica.RO.len) hx31 z9 Replica.RO.len (Sep.m2 hS24)
 obtain ⟨v42,c43,hv44,rfl,rfl⟩:=hR39
 have hS41:=Sep.no1 hS40
 simp only [zl,B0,reduceIte,reduceEqDiff]
 refine qp (v := .agg [v42,.int .i64 x30.Epoch,.int .i64 x30.Known]) ((SlG.lds (o:=0) hv38 rfl hx31 hS41 (Nat.le_of_ble_eq_true rfl)).trans rfl) ?_
 simp only [q18,B0,reduceIte,reduceEqDiff]
 refine qec hS41 (fun b46 h47 hS48=>?_)
 simp only [qed,B0,reduceIte,reduceEqDiff]
 refine qbt (us:=[v42,.int .i64 x30.Epoch,.int .i64 x30.Known]) rfl (cs':=[v42,.int .i64 x30.Epoch,
   .int .i64 x30.Known]) hS48 hW rfl (qm (SlF.one hv44) (qm rfl (qm rfl zq))) (Nat.le_of_ble_eq_true rfl) rfl (fun h50 hS51=>?_)
 simp only [qx,B0,reduceIte,reduceEqDiff]
 refine jm hS51 hW (by simp only [B0,reduceIte,reduceEqDiff]) (fun h52 hS53=>?_)
 simp only [jb,qoy,qf,qe,f22,qt,qb,Nat.reduceAdd,Nat.zero_add,Nat.add_zero,qv,qn,B0,reduceIte,reduceEqDiff]
 refine qh (v := .int .i64 v_1.Kind) rfl ?_
 simp only [qa,qo1,ww,qsl,qf,qe,qy,qb,yo,qd,qo2,q9,B0,reduceIte,reduceEqDiff]
 refine q8 (t:=(decide (v_1.Kind=1))) (fun hc54=>?_) (fun hc54=>?_)
 ·rw [iteT hc54] at hF32
  simp only [que,qf,qe,qd,jy,qb,kw,B0,reduceIte,reduceEqDiff]
  refine z8 6 (fun fr' h'=>Sep h' lo ([Blk1 pb0 [.int .i64 v_0.Epoch,.int .i64 v_0.Leader,pv0_2,.int .i64 v_0.High,
    pv0_4] 29]++(pc0_2++(c35++(c43++(S0)))))∧fr' 65 = .bool ((!v27.2)||(decide (v_0.Epoch=100)))∧fr' 0 = .ptr pb0 0∧fr' 3 = .ref [.int .i64 v_1.Kind,
    .int .i64 v_1.K,.int .i64 v_1.N] 0) (fun Q55 hN56=>?_) ?_
  ·simp only [List.take_succ_cons,List.take_zero]
   simp only [qc (g:=59),B0,reduceIte,reduceEqDiff]
   refine zb (t:=(!v27.2)) (fun hg57=>?_) (fun hg57=>?_)
   ·simp only [hg57,qc (g:=59),zv,qu,qb,zf,qa,qk,B0,reduceIte,reduceEqDiff]
    exact hN56 _ _ ⟨(Sep.m3 (Sep.m3 (Sep.m1 (Sep.m1 hS53)))),by rw [orT hg57]; simp only [B0,reduceIte,reduceEqDiff],f21,f22⟩
   ·simp only [hg57,qc (g:=59),qr,f21,qd,y7,qb,zu,qt,Nat.reduceAdd,Nat.zero_add,Nat.add_zero,qw,qn,B0,
     reduceIte,reduceEqDiff]
    refine qh (v := .int .i64 v_0.Epoch) ((zt (Sep.bk _ _ _ (Sep.m2 hS53))).trans rfl) ?_
    simp only [hg57,qc (g:=59),qr,qy,qb,yo,qu,zg,qa,qk,B0,reduceIte,reduceEqDiff]
    exact hN56 _ _ ⟨(Sep.m3 (Sep.m3 (Sep.m1 (Sep.m1 hS53)))),by rw [orF hg57]; simp only [B0,reduceIte,reduceEqDiff],f21,f22⟩
  rintro fr58 h62 ⟨hS63,f59,f60,f61⟩
  simp only [List.drop_succ_cons,List.drop_zero]
  simp only [qa,f59,q9,B0,reduceIte,reduceEqDiff]
  refine q8 (t:=((!v27.2)||(decide (v_0.Epoch=100)))) (fun hc64=>?_) (fun hc64=>?_)
  ·rw [iteT hc64] at hF32
   simp only [qf,qe,qd,qa,qz,B0,reduceIte,reduceEqDiff]
   obtain ⟨c65,hv66,hS67⟩:=SlG.cls0 (c:=c35) (os:=c43) hv38 rfl hx31 z9 (Replica.RI (x:=x30) hv44) (Sep.m3 (Sep.m3 hS63))
   have hv68:=SlG.toN hv66
   have he:=qj hF32
   subst he
   simp only [ze,B0,reduceIte,reduceEqDiff]
   exact ⟨pv0_2,pc0_2,c65,by first | trivial | rfl,ph0_2,hv68,(Sep.m2 (Sep.m2 hS67))⟩
  rw [iteF hc64] at hF32
  simp only [zi,qzz,qf,qe,f60,qd,y7,qb,zu,qt,Nat.reduceAdd,Nat.zero_add,Nat.add_zero,qw,qn,B0,reduceIte,
    reduceEqDiff]
  refine qh (v := .int .i64 v_0.Epoch) ((zt (Sep.bk _ _ _ hS63)).trans rfl) ?_
  simp only [qy,qb,qao,y7,zu,qt,Nat.reduceAdd,Nat.zero_add,Nat.add_zero,qw,zm,B0,reduceIte,reduceEqDiff]
  refine za (us:=[.int .i64 (IntKind.wrap .i64 (v_0.Epoch+1))]) rfl (cs':=[.int .i64 (IntKind.wrap .i64 (v_0.Epoch+1)),.int .i64 v_0.Leader,pv0_2,
    .int .i64 v_0.High,pv0_4]) hS63 hW rfl rfl (Nat.le_of_ble_eq_true rfl) rfl (fun h69 hS70=>?_)
  simp only [qa,qz1,qf,qe,f60,qd,f61,qt,qb,Nat.reduceAdd,Nat.zero_add,Nat.add_zero,qv,qn,B0,reduceIte,reduceEqDiff]
  refine qh (v := .int .i64 v_1.K) rfl ?_
  simp only [y7,qb,zu,qt,Nat.reduceAdd,Nat.zero_add,Nat.add_zero,qw,zm,B0,reduceIte,reduceEqDiff]
  refine za (us:=[.int .i64 v_1.K]) rfl (cs':=[.int .i64 (IntKind.wrap .i64 (v_0.Epoch+1)),.int .i64 v_1.K,pv0_2,.int .i64 v_0.High,
    pv0_4]) hS70 hW rfl rfl (Nat.le_of_ble_eq_true rfl) rfl (fun h71 hS72=>?_)
  simp only [qa,qzc,qf,qe,f60,qd,f61,qt,qb,Nat.reduceAdd,Nat.zero_add,Nat.add_zero,qv,qn,B0,reduceIte,reduceEqDiff]
  refine qh (v := .int .i64 v_1.K) rfl ?_
  obtain ⟨c73,hv74,hS75⟩:=SlG.cls0 (c:=c35) (os:=c43) hv38 rfl hx31 z9 (Replica.RI (x:=x30) hv44) (Sep.m3 (Sep.m3 hS72))
  have hv76:=SlG.toN hv74
  obtain ⟨v77,hx78,hF79⟩:=qi hF32
  simp only [zd,B0,reduceIte,reduceEqDiff]
  refine yp rfl (qaj hW pb0 (Group.mk (IntKind.wrap .i64
    (v_0.Epoch+1)) v_1.K v_0.InStep v_0.High v_0.Replicas) pv0_2 pc0_2 ph0_2 pv0_4 c73 hv76 v_1.K v77 hx78 (Sep.m2 (Sep.m2 hS75))) ?_
  rintro _ h84 ⟨c80,c82,rfl,hv81,hv83,hS85⟩
  simp only [qa,qf,qe,qd,qz,B0,reduceIte,reduceEqDiff]
  have he:=qj hF79
  subst he
  simp only [ze,B0,reduceIte,reduceEqDiff]
  exact ⟨pv0_2,c80,c82,by first | trivial | rfl,hv81,hv83,(Sep.m2 (Sep.m2 (Sep.m2 hS85)))⟩
 rw [iteF hc54] at hF32
 simp only [qr2,qf,qe,qy,qb,yo,qd,qa,qqo,q9,B0,reduceIte,reduceEqDiff]
 refine q8 (t:=(decide (v_1.Kind=2))) (fun hc86=>?_) (fun hc86=>?_)
 ·rw [iteT hc86] at hF32
  simp only [qwi,qf,jf,f21,zn,qg,ko,zu,zr,Nat.reduceAdd,Nat.zero_add,Nat.add_zero,qw,zl,B0,reduceIte,reduceEqDiff]
  refine qp (v:=pv0_4) ((zt (Sep.bk _ _ _ (Sep.m2 hS53))).trans rfl) ?_
  simp only [f21,zn,qg,ko,zu,zr,Nat.reduceAdd,Nat.zero_add,Nat.add_zero,qw,zl,B0,reduceIte,reduceEqDiff]
  refine qp (v := .int .i64 v_0.Leader) ((zt (Sep.bk _ _ _ (Sep.m2 hS53))).trans rfl) ?_
  obtain ⟨x87,hx88,hF89⟩:=qi hF32
  simp only [wt,B0,reduceIte,reduceEqDiff]
  refine qp (SlG.ia hv38 hx88) ?_
  simp only [zn,qg,qx,qz3,qf,qe,f22,qt,qb,Nat.reduceAdd,Nat.zero_add,Nat.add_zero,qv,qn,B0,reduceIte,
    reduceEqDiff]
  refine qh (v := .int .i64 v_1.K) rfl ?_
  simp only [qy,qb,xk,qd,B0,reduceIte,reduceEqDiff]
  refine z8 5 (fun fr' h'=>Sep h' lo ([Blk1 pb0 [.int .i64 v_0.Epoch,.int .i64 v_0.Leader,pv0_2,.int .i64 v_0.High,
    pv0_4] 29]++(c35++(pc0_2++(c43++(S0)))))∧fr' 101 = .bool ((decide (v_1.K≠0)) ||
    (!(zp v_1.N 0 99)))∧fr' 0 = .ptr pb0 0∧fr' 3 = .ref [.int .i64 v_1.Kind,.int .i64 v_1.K,
    .int .i64 v_1.N] 0∧fr' 8 = .ptr b33 (v_0.Leader.toNat*3)) (fun Q90 hN91=>?_) ?_
  ·simp only [List.take_succ_cons,List.take_zero]
   simp only [qc (g:=96),B0,reduceIte,reduceEqDiff]
   refine zb (t:=(decide (v_1.K≠0))) (fun hg92=>?_) (fun hg92=>?_)
   ·simp only [hg92,qc (g:=96),zv,qu,qb,zf,qa,qk,B0,reduceIte,reduceEqDiff]
    exact hN91 _ _ ⟨(Sep.m3 (Sep.m2 (Sep.m3 (Sep.m1 hS53)))),by rw [orT hg92]; simp only [B0,reduceIte,reduceEqDiff],f21,f22,rfl⟩
   ·simp only [hg92,qc (g:=96),qr,f22,qt,qb,Nat.reduceAdd,Nat.zero_add,Nat.add_zero,qv,qn,B0,reduceIte,reduceEqDiff]
    refine qh (v := .int .i64 v_1.N) rfl ?_
    simp only [hg92,qc (g:=96),qr,zd,B0,reduceIte,reduceEqDiff]
    refine j6 rfl (ql qq (ql qq (ql qq zh))) (wj (fun b hb=>decide_eq_true hb) v_1.N 0 99 _ rfl) ?_
    simp only [hg92,qc (g:=96),qr,jy,qb,kw,qu,zg,qa,qk,B0,reduceIte,reduceEqDiff]
    exact hN91 _ _ ⟨(Sep.m3 (Sep.m2 (Sep.m3 (Sep.m1 hS53)))),by rw [orF hg92]; simp only [B0,reduceIte,reduceEqDiff],f21,f22,rfl⟩
  rintro fr93 h98 ⟨hS99,f94,f95,f96,f97⟩
  simp only [List.drop_succ_cons,List.drop_zero]
  simp only [f94,qd,B0,reduceIte,reduceEqDiff]
  refine z8 7 (fun fr' h'=>Sep h' lo ([Blk1 pb0 [.int .i64 v_0.Epoch,.int .i64 v_0.Leader,pv0_2,.int .i64 v_0.High,
    pv0_4] 29]++(c35++(pc0_2++(c43++(S0)))))∧fr' 109 = .bool (((decide (v_1.K≠0))||(!(zp v_1.N 0 99)))||(decide
    ((List.length x87.Log:Int)=30)))∧fr' 0 = .ptr pb0 0∧fr' 3 = .ref [.int .i64 v_1.Kind,.int .i64 v_1.K,
    .int .i64 v_1.N] 0∧fr' 8 = .ptr b33 (v_0.Leader.toNat*3)) (fun Q100 hN101=>?_) ?_
  ·simp only [List.take_succ_cons,List.take_zero]
   simp only [qc (g:=102),B0,reduceIte,reduceEqDiff]
   refine zb (t:=((decide (v_1.K≠0))||(!(zp v_1.N 0 99)))) (fun hg102=>?_) (fun hg102=>?_)
   ·simp only [hg102,qc (g:=102),zv,qu,qb,zf,qa,qk,B0,reduceIte,reduceEqDiff]
    exact hN101 _ _ ⟨(Sep.m3 (Sep.m3 (Sep.m3 (Sep.m3 hS99)))),by rw [orT hg102]; simp only [B0,reduceIte,reduceEqDiff],f95,f96,f97⟩
   ·obtain ⟨c103,hv104,hS105⟩:=SlG.cls0 (c:=c35) (os:=c43) hv38 rfl hx31 z9 (Replica.RI (x:=x30) hv44) (Sep.m2 (Sep.m3 hS99))
    have hv106:=SlG.toN hv104
    obtain ⟨c107,cs108,os109,hv110,hR111,hS112⟩:=SlG.opn (SlN.toG hv106 hb34 Replica.RO.len) hx88 z9 Replica.RO.len hS105
    obtain ⟨v114,c115,hv116,rfl,rfl⟩:=hR111
    have hS113:=Sep.no1 hS112
    simp only [hg102,qc (g:=102),qr,f97,qd,y7,qb,zu,qt,Nat.reduceAdd,Nat.zero_add,Nat.add_zero,qw,qn,B0,
      reduceIte,reduceEqDiff]
    refine qh (v:=v114) ((SlG.ld (o:=0) hv110 rfl hx88 hS113 (Nat.le_of_ble_eq_true rfl)).trans rfl) ?_
    simp only [hg102,qc (g:=102),qr,zw,qb,SlF.plen hv116,qy,yo,qu,zg,qa,qk,B0,reduceIte,
      reduceEqDiff]
    exact hN101 _ _ ⟨(Sep.m3 (Sep.m3 (Sep.m3 (Sep.m3 hS99)))),by rw [orF hg102]; simp only [B0,reduceIte,reduceEqDiff],f95,f96,f97⟩
  rintro fr118 h123 ⟨hS124,f119,f120,f121,f122⟩
  simp only [List.drop_succ_cons,List.drop_zero]
  simp only [qa,f119,q9,B0,reduceIte,reduceEqDiff]
  refine q8 (t:=(((decide (v_1.K≠0))||(!(zp v_1.N 0 99)))||(decide ((List.length x87.Log:Int)=30)))) (fun hc125=>?_) (fun hc125=>?_)
  ·rw [iteT hc125] at hF89
   simp only [qf,qe,qd,qa,qz,B0,reduceIte,reduceEqDiff]
   obtain ⟨c126,hv127,hS128⟩:=SlG.cls0 (c:=c35) (os:=c43) hv38 rfl hx31 z9 (Replica.RI (x:=x30) hv44) (Sep.m2 (Sep.m3 hS124))
   have hv129:=SlG.toN hv127
   have he:=qj hF89
   subst he
   simp only [ze,B0,reduceIte,reduceEqDiff]
   exact ⟨pv0_2,pc0_2,c126,by first | trivial | rfl,ph0_2,hv129,(Sep.m2 (Sep.m2 hS128))⟩
  rw [iteF hc125] at hF89
  obtain ⟨c130,hv131,hS132⟩:=SlG.cls0 (c:=c35) (os:=c43) hv38 rfl hx31 z9 (Replica.RI (x:=x30) hv44) (Sep.m2 (Sep.m3 hS124))
  have hv133:=SlG.toN hv131
  obtain ⟨c134,cs135,os136,hv137,hR138,hS139⟩:=SlG.opn (SlN.toG hv133 hb34 Replica.RO.len) hx88 z9 Replica.RO.len hS132
  obtain ⟨v141,c142,hv143,rfl,rfl⟩:=hR138
  have hS140:=Sep.no1 hS139
  simp only [zi,qyh,qf,jf,f122,qkn,qg,zn,ko,zu,zr,Nat.reduceAdd,Nat.zero_add,Nat.add_zero,qw,zl,B0,
    reduceIte,reduceEqDiff]
  refine qp (v:=v141) ((SlG.ld (o:=0) hv137 rfl hx88 hS140 (Nat.le_of_ble_eq_true rfl)).trans rfl) ?_
  simp only [f120,zn,qg,ko,zu,zr,Nat.reduceAdd,Nat.zero_add,Nat.add_zero,qw,zl,B0,reduceIte,reduceEqDiff]
  refine qp (v := .int .i64 v_0.Epoch) ((zt (Sep.bk _ _ _ (Sep.m2 hS140))).trans rfl) ?_
  simp only [f121,zr,qg,Nat.reduceAdd,Nat.zero_add,Nat.add_zero,qv,zl,B0,reduceIte,reduceEqDiff]
  refine qp (v := .int .i64 v_1.N) rfl ?_
  simp only [qh5,evp,B0,reduceIte,reduceEqDiff]
  refine qp (v := .agg [.int .i64 v_0.Epoch,.int .i64 v_1.N]) rfl ?_
  simp only [qcn,evp,B0,reduceIte,reduceEqDiff]
  refine uu (n:=2) (f:=Row.cells) [(Row.mk v_0.Epoch v_1.N)] hS140 rfl rfl (fun v145 c146 h147 hv148 hS149=>?_)
  simp only [qg2,B0,reduceIte,reduceEqDiff]
  obtain ⟨l151,hx152,hF153⟩:=qi hF89
  refine qbx (f:=Row.cells) hv143 (Sep.m2 hS149) hW (fun _=>rfl) (fun _=>rfl) (SlF.first hv148 hS149 (fun _=>rfl)) hx152 (fun v154 c155 h156 hv157 hS158=>?_)
  simp only [ko,qg,zu,zr,Nat.reduceAdd,Nat.zero_add,Nat.add_zero,qw,qed,B0,reduceIte,reduceEqDiff]
  refine qd9 (n:=3) (us:=[v154]) (cs:=[v141,.int .i64 x87.Epoch,.int .i64 x87.Known]) (o:=0) (cs':=[v154,.int .i64 x87.Epoch,
    .int .i64 x87.Known]) (kr (SlF.one hv157)) hv137 rfl hx88 (Sep.m2 hS158) hW rfl (qm (SlF.one hv157) zq) (Nat.le_of_ble_eq_true rfl) rfl
    (fun c162 h160 hv163 hS161=>?_)
  simp only [qx,qy4,qf,qe,f120,qd,y7,qb,zu,qt,Nat.reduceAdd,Nat.zero_add,Nat.add_zero,qw,qn,B0,
    reduceIte,reduceEqDiff]
  refine qh (v := .int .i64 v_0.Leader) ((zt (Sep.bk _ _ _ (Sep.m3 hS161))).trans rfl) ?_
  obtain ⟨c164,hv165,hS166⟩:=SlG.cls (e':=(Replica.mk l151 x87.Epoch x87.Known)) (c:=c162) (os:=c155) hv163 rfl hx88 z9 (Replica.RI (x :=
    (Replica.mk l151 x87.Epoch x87.Known)) hv157) (Sep.m1 (Sep.m1 hS161))
  have hx167:=qdb (x':=(Replica.mk l151 x87.Epoch x87.Known)) hx88
  have hv168:=SlG.toN hv165
  obtain ⟨v169,hx170,hF171⟩:=qi hF153
  simp only [zd,B0,reduceIte,reduceEqDiff]
  refine yp rfl (qaj hW pb0 (Group.mk v_0.Epoch v_0.Leader v_0.InStep v_0.High (List.set v_0.Replicas v_0.Leader.toNat
    (Replica.mk l151 x87.Epoch x87.Known))) pv0_2 pc0_2 ph0_2 pv0_4 c164 hv168 v_0.Leader v169 hx170 (Sep.m3 (Sep.m3 hS166))) ?_
  rintro _ h176 ⟨c172,c174,rfl,hv173,hv175,hS177⟩
  simp only [qa,qf,qe,qd,qz,B0,reduceIte,reduceEqDiff]
  have he:=qj hF171
  subst he
  simp only [ze,B0,reduceIte,reduceEqDiff]
  exact ⟨pv0_2,c172,c174,by first | trivial | rfl,hv173,hv175,(Sep.m2 (Sep.m2 (Sep.m2 (Sep.dc (Sep.m3 hS177)))))⟩
 rw [iteF hc86] at hF32
 simp only [qse,qf,qe,qy,qb,yo,qd,qa,qrf,q9,B0,reduceIte,reduceEqDiff]
 refine q8 (t:=(decide (v_1.Kind=3))) (fun hc178=>?_) (fun hc178=>?_)
 ·rw [iteT hc178] at hF32
  simp only [qpd,qf,jf,f22,zr,qg,Nat.reduceAdd,Nat.zero_add,Nat.add_zero,qv,zl,B0,reduceIte,reduceEqDiff]
  refine qp (v := .int .i64 v_1.K) rfl ?_
  simp only [f21,zn,qg,ko,zu,zr,Nat.reduceAdd,Nat.zero_add,Nat.add_zero,qw,zl,B0,reduceIte,reduceEqDiff]
  refine qp (v := .int .i64 v_0.Leader) ((zt (Sep.bk _ _ _ (Sep.m2 hS53))).trans rfl) ?_
  simp only [yd,qg,yo,zn,B0,reduceIte,reduceEqDiff]
  simp only [qo (g:=141),B0,reduceIte,reduceEqDiff]
  refine jj (t:=(decide (v_1.K=v_0.Leader))) (fun hg179=>?_) (fun hg179=>?_)
  ·rw [iteT hg179] at hF32
   simp only [hg179,qo (g:=141),qac,jd,qg,zf,qx,q9,qfh,qf,qe,qd,qa,qz,B0,
     reduceIte,reduceEqDiff]
   obtain ⟨c180,hv181,hS182⟩:=SlG.cls0 (c:=c35) (os:=c43) hv38 rfl hx31 z9 (Replica.RI (x:=x30) hv44) (Sep.m1 (Sep.m1 hS53))
   have hv183:=SlG.toN hv181
   have he:=qj hF32
   subst he
   simp only [ze,B0,reduceIte,reduceEqDiff]
   exact ⟨pv0_2,pc0_2,c180,by first | trivial | rfl,ph0_2,hv183,(Sep.m2 (Sep.m2 hS182))⟩
  rw [iteF hg179] at hF32
  simp only [hg179,qo (g:=141),z7,f22,zr,qg,Nat.reduceAdd,Nat.zero_add,Nat.add_zero,qv,zl,B0,reduceIte,reduceEqDiff]
  refine qp (v := .int .i64 v_1.N) rfl ?_
  simp only [hg179,qo (g:=141),z7,wl,B0,reduceIte,reduceEqDiff]
  refine qdv rfl (ql qq (ql qq (ql qq zh))) (wj (fun b hb=>decide_eq_true hb) v_1.N 0 30 _ rfl) ?_
  simp only [hg179,qo (g:=141),z7,qf7,qg,kw,jd,zg,qx,q9,B0,reduceIte,reduceEqDiff]
  refine q8 (t:=(!(zp v_1.N 0 30))) (fun hc184=>?_) (fun hc184=>?_)
  ·rw [iteT hc184] at hF32
   simp only [qf,qe,qd,qa,qz,B0,reduceIte,reduceEqDiff]
   obtain ⟨c185,hv186,hS187⟩:=SlG.cls0 (c:=c35) (os:=c43) hv38 rfl hx31 z9 (Replica.RI (x:=x30) hv44) (Sep.m1 (Sep.m1 hS53))
   have hv188:=SlG.toN hv186
   have he:=qj hF32
   subst he
   simp only [ze,B0,reduceIte,reduceEqDiff]
   exact ⟨pv0_2,pc0_2,c185,by first | trivial | rfl,ph0_2,hv188,(Sep.m2 (Sep.m2 hS187))⟩
  rw [iteF hc184] at hF32
  simp only [zi,qvi,qf,qe,f21,qd,f22,qt,qb,Nat.reduceAdd,Nat.zero_add,Nat.add_zero,qv,qn,B0,reduceIte,reduceEqDiff]
  refine qh (v := .int .i64 v_1.K) rfl ?_
  simp only [f22,qt,qb,Nat.reduceAdd,Nat.zero_add,Nat.add_zero,qv,qn,B0,reduceIte,reduceEqDiff]
  refine qh (v := .int .i64 v_1.N) rfl ?_
  obtain ⟨c189,hv190,hS191⟩:=SlG.cls0 (c:=c35) (os:=c43) hv38 rfl hx31 z9 (Replica.RI (x:=x30) hv44) (Sep.m1 (Sep.m1 hS53))
  have hv192:=SlG.toN hv190
  obtain ⟨v193,hx194,hF195⟩:=qi hF32
  simp only [zd,B0,reduceIte,reduceEqDiff]
  refine yp rfl (qdr hW k pb0 v_0 pv0_2 pc0_2 ph0_2 pv0_4 c189 hv192 v_1.K v_1.N v193 hx194 (Sep.m2 (Sep.m2 hS191))) ?_
  rintro _ h200 ⟨c196,c198,rfl,hv197,hv199,hS201⟩
  simp only [qa,qf,qe,qd,qz,B0,reduceIte,reduceEqDiff]
  have he:=qj hF195
  subst he
  simp only [ze,B0,reduceIte,reduceEqDiff]
  exact ⟨pv0_2,c196,c198,by first | trivial | rfl,hv197,hv199,(Sep.m2 (Sep.m2 (Sep.m2 hS201)))⟩
 rw [iteF hc178] at hF32
 simp only [qqt,qf,qe,qy,qb,yo,qd,qa,qr3,q9,B0,reduceIte,reduceEqDiff]
 refine q8 (t:=(decide (v_1.Kind=4))) (fun hc202=>?_) (fun hc202=>?_)
 ·rw [iteT hc202] at hF32
  simp only [qqk,qf,jf,zn,qg,qf7,kw,B0,reduceIte,reduceEqDiff]
  refine qap 8 (fun fr' h'=>Sep h' lo ([Blk1 pb0 [.int .i64 v_0.Epoch,.int .i64 v_0.Leader,pv0_2,.int .i64 v_0.High,
    pv0_4] 29]++(pc0_2++(c35++(c43++(S0)))))∧fr' 165 = .bool ((!v27.2)||(decide (v_1.K=v_0.Leader)))∧fr' 0 = .ptr pb0 0∧fr' 5 = .int .i64 v27.1) rfl
    (fun Q203 hN204=>?_) ?_
  ·simp only [List.take_succ_cons,List.take_zero]
   simp only [qo (g:=157),B0,reduceIte,reduceEqDiff]
   refine jj (t:=(!v27.2)) (fun hg205=>?_) (fun hg205=>?_)
   ·simp only [hg205,qo (g:=157),qac,jd,qg,zf,qx,qk,B0,reduceIte,reduceEqDiff]
    exact hN204 _ _ ⟨(Sep.m3 (Sep.m3 (Sep.m1 (Sep.m1 hS53)))),by rw [orT hg205]; simp only [B0,reduceIte,reduceEqDiff],f21,rfl⟩
   ·simp only [hg205,qo (g:=157),z7,f22,zr,qg,Nat.reduceAdd,Nat.zero_add,Nat.add_zero,qv,zl,B0,reduceIte,reduceEqDiff]
    refine qp (v := .int .i64 v_1.K) rfl ?_
    simp only [hg205,qo (g:=157),z7,f21,zn,qg,ko,zu,zr,Nat.reduceAdd,Nat.zero_add,Nat.add_zero,qw,zl,B0,
      reduceIte,reduceEqDiff]
    refine qp (v := .int .i64 v_0.Leader) ((zt (Sep.bk _ _ _ (Sep.m2 hS53))).trans rfl) ?_
    simp only [hg205,qo (g:=157),z7,yd,qg,yo,jd,zg,qx,qk,B0,reduceIte,reduceEqDiff]
    exact hN204 _ _ ⟨(Sep.m3 (Sep.m3 (Sep.m1 (Sep.m1 hS53)))),by rw [orF hg205]; simp only [B0,reduceIte,reduceEqDiff],f21,rfl⟩
  rintro fr206 h210 ⟨hS211,f207,f208,f209⟩
  simp only [List.drop_succ_cons,List.drop_zero]
  simp only [qx,f207,q9,B0,reduceIte,reduceEqDiff]
  refine q8 (t:=((!v27.2)||(decide (v_1.K=v_0.Leader)))) (fun hc212=>?_) (fun hc212=>?_)
  ·rw [iteT hc212] at hF32
   simp only [qf,qe,qd,qa,qz,B0,reduceIte,reduceEqDiff]
   obtain ⟨c213,hv214,hS215⟩:=SlG.cls0 (c:=c35) (os:=c43) hv38 rfl hx31 z9 (Replica.RI (x:=x30) hv44) (Sep.m3 (Sep.m3 hS211))
   have hv216:=SlG.toN hv214
   have he:=qj hF32
   subst he
   simp only [ze,B0,reduceIte,reduceEqDiff]
   exact ⟨pv0_2,pc0_2,c213,by first | trivial | rfl,ph0_2,hv216,(Sep.m2 (Sep.m2 hS215))⟩
  rw [iteF hc212] at hF32
  simp only [zi,qqp,qf,qe,f208,qd,y7,qb,zu,qt,Nat.reduceAdd,Nat.zero_add,Nat.add_zero,qw,qn,B0,reduceIte,
    reduceEqDiff]
  refine qh (v:=pv0_2) ((zt (Sep.bk _ _ _ hS211)).trans rfl) ?_
  obtain ⟨v217,hx218,hF219⟩:=qi hF32
  simp only [f209,qd,qy,qb,qao,zd,B0,reduceIte,reduceEqDiff]
  refine yp rfl (qgq hW pv0_2 pc0_2 v_0.InStep ph0_2 v27.1 (IntKind.wrap .i64 (v27.1+1)) v217 hx218 (Sep.m1 hS211)) ?_
  rintro v220 h224 ⟨_,c221,rfl,hv222,hS225⟩
  simp only [y7,qb,zu,qt,Nat.reduceAdd,Nat.zero_add,Nat.add_zero,qw,zm,B0,reduceIte,reduceEqDiff]
  refine za (us:=[v220]) (kr (SlF.one hv222)) (cs':=[.int .i64 v_0.Epoch,.int .i64 v_0.Leader,v220,.int .i64 v_0.High,
    pv0_4]) (Sep.m1 hS225) hW rfl (qm (SlF.one hv222) zq) (Nat.le_of_ble_eq_true rfl) rfl (fun h226 hS227=>?_)
  simp only [qa,qf,qe,qd,qz,B0,reduceIte,reduceEqDiff]
  obtain ⟨c228,hv229,hS230⟩:=SlG.cls0 (c:=c35) (os:=c43) hv38 rfl hx31 z9 (Replica.RI (x:=x30) hv44) (Sep.m3 (Sep.m3 hS227))
  have hv231:=SlG.toN hv229
  have he:=qj hF219
  subst he
  simp only [ze,B0,reduceIte,reduceEqDiff]
  exact ⟨v220,c221,c228,by first | trivial | rfl,hv222,hv231,(Sep.m2 (Sep.m2 hS230))⟩
 rw [iteF hc202] at hF32
 simp only [qp1,qf,qe,qy,qb,yo,qd,qa,qpm,q9,B0,reduceIte,reduceEqDiff]
 refine q8 (t:=(decide (v_1.Kind=5))) (fun hc232=>?_) (fun hc232=>?_)
 ·rw [iteT hc232] at hF32
  simp only [qof,qf,jf,zn,qg,B0,reduceIte,reduceEqDiff]
  refine qap 8 (fun fr' h'=>Sep h' lo ([Blk1 pb0 [.int .i64 v_0.Epoch,.int .i64 v_0.Leader,pv0_2,.int .i64 v_0.High,
    pv0_4] 29]++(c43++(pc0_2++(c35++(S0)))))∧fr' 188 = .bool (v27.2||(decide (x30.Epoch≠v_0.Epoch)))∧fr' 0 = .ptr pb0 0∧fr' 3 = .ref [.int .i64 v_1.Kind,
    .int .i64 v_1.K,.int .i64 v_1.N] 0∧fr' 5 = .int .i64 v27.1∧fr' 7 = .ref [v42,.int .i64 x30.Epoch,.int .i64 x30.Known] 0) rfl (fun Q233 hN234=>?_) ?_
  ·simp only [List.take_succ_cons,List.take_zero]
   simp only [qo (g:=180),B0,reduceIte,reduceEqDiff]
   refine jj (t:=v27.2) (fun hg235=>?_) (fun hg235=>?_)
   ·simp only [hg235,qo (g:=180),qac,jd,qg,zf,qx,qk,B0,reduceIte,reduceEqDiff]
    exact hN234 _ _ ⟨(Sep.m3 (Sep.m2 (Sep.m3 hS53))),by rw [orT hg235]; simp only [B0,reduceIte,reduceEqDiff],f21,f22,rfl,rfl⟩
   ·simp only [hg235,qo (g:=180),z7,zr,qg,Nat.reduceAdd,Nat.zero_add,Nat.add_zero,qv,zl,B0,reduceIte,reduceEqDiff]
    refine qp (v := .int .i64 x30.Epoch) rfl ?_
    simp only [hg235,qo (g:=180),z7,f21,zn,qg,ko,zu,zr,Nat.reduceAdd,Nat.zero_add,Nat.add_zero,qw,zl,B0,
      reduceIte,reduceEqDiff]
    refine qp (v := .int .i64 v_0.Epoch) ((zt (Sep.bk _ _ _ (Sep.m2 hS53))).trans rfl) ?_
    simp only [hg235,qo (g:=180),z7,yd,qg,xk,jd,zg,qx,qk,B0,reduceIte,reduceEqDiff]
    exact hN234 _ _ ⟨(Sep.m3 (Sep.m2 (Sep.m3 hS53))),by rw [orF hg235]; simp only [B0,reduceIte,reduceEqDiff],f21,f22,rfl,rfl⟩
  rintro fr236 h242 ⟨hS243,f237,f238,f239,f240,f241⟩
  simp only [List.drop_succ_cons,List.drop_zero]
  simp only [f237,zn,qg,B0,reduceIte,reduceEqDiff]
  refine qap 8 (fun fr' h'=>Sep h' lo ([Blk1 pb0 [.int .i64 v_0.Epoch,.int .i64 v_0.Leader,pv0_2,.int .i64 v_0.High,
    pv0_4] 29]++(pc0_2++(c35++(c43++(S0)))))∧fr' 197 = .bool ((v27.2||(decide (x30.Epoch≠v_0.Epoch)))||(decide
    (x30.Known<v_0.High)))∧fr' 0 = .ptr pb0 0∧fr' 3 = .ref [.int .i64 v_1.Kind,.int .i64 v_1.K,
    .int .i64 v_1.N] 0∧fr' 5 = .int .i64 v27.1) rfl (fun Q244 hN245=>?_) ?_
  ·simp only [List.take_succ_cons,List.take_zero]
   simp only [qo (g:=189),B0,reduceIte,reduceEqDiff]
   refine jj (t:=(v27.2||(decide (x30.Epoch≠v_0.Epoch)))) (fun hg246=>?_) (fun hg246=>?_)
   ·simp only [hg246,qo (g:=189),qac,jd,qg,zf,qx,qk,B0,reduceIte,reduceEqDiff]
    exact hN245 _ _ ⟨(Sep.m3 (Sep.m3 (Sep.m3 (Sep.m1 hS243)))),by rw [orT hg246]; simp only [B0,reduceIte,reduceEqDiff],f238,f239,f240⟩
   ·simp only [hg246,qo (g:=189),z7,f241,zr,qg,Nat.reduceAdd,Nat.zero_add,Nat.add_zero,qv,zl,B0,reduceIte,reduceEqDiff]
    refine qp (v := .int .i64 x30.Known) rfl ?_
    simp only [hg246,qo (g:=189),z7,f238,zn,qg,ko,zu,zr,Nat.reduceAdd,Nat.zero_add,Nat.add_zero,qw,zl,B0,
      reduceIte,reduceEqDiff]
    refine qp (v := .int .i64 v_0.High) ((zt (Sep.bk _ _ _ hS243)).trans rfl) ?_
    simp only [hg246,qo (g:=189),z7,yd,qg,qav,jd,zg,qx,qk,B0,reduceIte,reduceEqDiff]
    exact hN245 _ _ ⟨(Sep.m3 (Sep.m3 (Sep.m3 (Sep.m1 hS243)))),by rw [orF hg246]; simp only [B0,reduceIte,reduceEqDiff],f238,f239,f240⟩
  rintro fr247 h252 ⟨hS253,f248,f249,f250,f251⟩
  simp only [List.drop_succ_cons,List.drop_zero]
  simp only [qx,f248,q9,B0,reduceIte,reduceEqDiff]
  refine q8 (t:=((v27.2||(decide (x30.Epoch≠v_0.Epoch)))||(decide (x30.Known<v_0.High)))) (fun hc254=>?_) (fun hc254=>?_)
  ·rw [iteT hc254] at hF32
   simp only [qf,qe,qd,qa,qz,B0,reduceIte,reduceEqDiff]
   obtain ⟨c255,hv256,hS257⟩:=SlG.cls0 (c:=c35) (os:=c43) hv38 rfl hx31 z9 (Replica.RI (x:=x30) hv44) (Sep.m3 (Sep.m3 hS253))
   have hv258:=SlG.toN hv256
   have he:=qj hF32
   subst he
   simp only [ze,B0,reduceIte,reduceEqDiff]
   exact ⟨pv0_2,pc0_2,c255,by first | trivial | rfl,ph0_2,hv258,(Sep.m2 (Sep.m2 hS257))⟩
  rw [iteF hc254] at hF32
  simp only [zi,qqi,qf,jf,f249,qkn,qg,zn,ko,zu,zr,Nat.reduceAdd,Nat.zero_add,Nat.add_zero,qw,zl,B0,
    reduceIte,reduceEqDiff]
  refine qp (v:=pv0_2) ((zt (Sep.bk _ _ _ hS253)).trans rfl) ?_
  simp only [f251,zn,qg,f250,zr,Nat.reduceAdd,Nat.zero_add,Nat.add_zero,qv,zl,B0,reduceIte,reduceEqDiff]
  refine qp (v := .int .i64 v_1.K) rfl ?_
  simp only [qcn,evp,B0,reduceIte,reduceEqDiff]
  refine uu (n:=1) (f:=cI) [v_1.K] hS253 rfl rfl (fun v259 c260 h261 hv262 hS263=>?_)
  obtain ⟨v265,hx266,hF267⟩:=qi hF32
  simp only [wl,B0,reduceIte,reduceEqDiff]
  refine qr7 rfl (qgp hW pv0_2 pc0_2 v_0.InStep ph0_2 v27.1 v259 c260 [v_1.K] hv262 v265 hx266 (Sep.m2 hS263)) ?_
  rintro v268 h274 ⟨_,c269,c272,rfl,hv270,hv273,hS275⟩
  simp only [ko,qg,zu,zr,Nat.reduceAdd,Nat.zero_add,Nat.add_zero,qw,qed,B0,reduceIte,reduceEqDiff]
  refine qbt (us:=[v268]) (kr (SlF.one hv270)) (cs':=[.int .i64 v_0.Epoch,.int .i64 v_0.Leader,v268,.int .i64 v_0.High,
    pv0_4]) (Sep.m2 hS275) hW rfl (qm (SlF.one hv270) zq) (Nat.le_of_ble_eq_true rfl) rfl (fun h276 hS277=>?_)
  simp only [qx,qf,qe,qd,qa,qz,B0,reduceIte,reduceEqDiff]
  obtain ⟨c278,hv279,hS280⟩:=SlG.cls0 (c:=c35) (os:=c43) hv38 rfl hx31 z9 (Replica.RI (x:=x30) hv44) (Sep.m4 (Sep.m4 hS277))
  have hv281:=SlG.toN hv279
  have he:=qj hF267
  subst he
  simp only [ze,B0,reduceIte,reduceEqDiff]
  exact ⟨v268,c269,c278,by first | trivial | rfl,hv270,hv281,(Sep.m2 (Sep.m2 (Sep.dc (Sep.m3 hS280))))⟩
 rw [iteF hc232] at hF32
 simp only [qp9,qf,qe,qy,qb,yo,qd,qa,qqq,q9,B0,reduceIte,reduceEqDiff]
 refine q8 (t:=(decide (v_1.Kind=6))) (fun hc282=>?_) (fun hc282=>?_)
 ·rw [iteT hc282] at hF32
  simp only [qrn,qf,qe,qd,qa,qq1,f21,y7,qb,zu,qt,Nat.reduceAdd,Nat.zero_add,Nat.add_zero,qw,qn,B0,
    reduceIte,reduceEqDiff]
  refine qh (v:=pv0_2) ((zt (Sep.bk _ _ _ (Sep.m2 hS53))).trans rfl) ?_
  simp only [zw,qb,SlF.plen ph0_2,qd,qa,B0,reduceIte,reduceEqDiff]
  obtain ⟨c283,hv284,hS285⟩:=SlG.cls0 (c:=c35) (os:=c43) hv38 rfl hx31 z9 (Replica.RI (x:=x30) hv44) (Sep.m1 (Sep.m1 hS53))
  have hv286:=SlG.toN hv284
  obtain ⟨oc297,hX299,hk300⟩:=ki hF32
  simp only [qsa]
  refine qdf (σ:=Int × (List Replica)) (fun i295 s351=>yq v_0 i295 s351.1 s351.2) (fun s fr' h'=>∃ c293,
    fr' 0 = .ptr pb0 0∧fr' 3 = .ref [.int .i64 v_1.Kind,.int .i64 v_1.K,
    .int .i64 v_1.N] 0∧fr' 9 = .int .i64 s.1∧fr' 215=pv0_2∧SlN Replica.R 3 51 pv0_4 s.2 c293∧Sep h' lo ([Blk1 pb0 [.int .i64 v_0.Epoch,.int .i64 v_0.Leader,pv0_2,
    .int .i64 v_0.High,pv0_4] 29]++(pc0_2++(c293++(S0))))) hX299 ⟨c283,f21,f22,rfl,rfl,hv286,(Sep.m2 (Sep.m2 hS285))⟩ (by simp only [B0,reduceIte,
    reduceEqDiff]) (by simp only [B0,reduceIte,reduceEqDiff]) (fun _ _ _ h=>h) rfl rfl (fun _ _ _ _ h=>h) (fun _ _ _ _ h=>h) (fun _ _ _ _ h=>h) (by decide) ?_ ?_
  ·rintro i295 ⟨s291,s292⟩ fr309 h310 hx316 ⟨c293,f312,f313,f314,f315,hv294,hS311⟩ f317 f318 oc298 hF301 hr302 Q303 hN304 hB308 hK305 hR306 hE307
   dsimp only at *
   unfold yq at hF301
   obtain ⟨x319,hx320,hF321⟩:=qi hF301
   simp only [qp8,qf,qe,f315,f317,jz,B0,reduceIte,reduceEqDiff]
   obtain ⟨b322,hb323⟩:=SlF.isrow ph0_2 (uf hx320)
   refine qh (SlF.ia ph0_2 hb323 hx320) ?_
   simp only [qn,B0,reduceIte,reduceEqDiff]
   refine qh (v := .int .i64 x319) ((SlF.ld (o:=0) ph0_2 (Sep.m1 hS311) hb323 hx320 (fun _=>rfl) (Nat.le_of_ble_eq_true rfl)).trans rfl) ?_
   simp only [qd,qa,qpg,qf,jf,f312,zn,qg,ko,zu,zr,Nat.reduceAdd,Nat.zero_add,Nat.add_zero,qw,zl,B0,
     reduceIte,reduceEqDiff]
   refine qp (v:=pv0_4) ((zt (Sep.bk _ _ _ hS311)).trans rfl) ?_
   obtain ⟨x324,hx325,hF326⟩:=qi hF321
   simp only [zn,qg,wt,B0,reduceIte,reduceEqDiff]
   refine qp (SlN.ia hv294 hb34 hx325) ?_
   obtain ⟨c327,cs328,os329,hv330,hR331,hS332⟩:=SlG.opn (SlN.toG hv294 hb34 Replica.RO.len) hx325 z9 Replica.RO.len (Sep.m2 hS311)
   obtain ⟨v334,c335,hv336,rfl,rfl⟩:=hR331
   have hS333:=Sep.no1 hS332
   simp only [zr,qg,Nat.reduceAdd,Nat.zero_add,Nat.add_zero,qw,zl,B0,reduceIte,reduceEqDiff]
   refine qp (v := .int .i64 x324.Epoch) ((SlG.ld (o:=1) hv330 rfl hx325 hS333 (Nat.le_of_ble_eq_true rfl)).trans rfl) ?_
   simp only [f312,zn,qg,ko,zu,zr,Nat.reduceAdd,Nat.zero_add,Nat.add_zero,qw,zl,B0,reduceIte,reduceEqDiff]
   refine qp (v := .int .i64 v_0.Epoch) ((zt (Sep.bk _ _ _ (Sep.m2 hS333))).trans rfl) ?_
   simp only [yd,qg,xk,qx,q9,B0,reduceIte,reduceEqDiff]
   refine q8 (t:=(decide (x324.Epoch≠v_0.Epoch))) (fun hc338=>?_) (fun hc338=>?_)
   ·rw [iteT hc338] at hF326
    simp only [qf,qe,qd,qa,qz,B0,reduceIte,reduceEqDiff]
    have e339:=qj hF326
    subst e339
    have ho340:=hr302 _ rfl
    have hk341:=hk300
    rw [ho340] at hk341
    dsimp only [jnO] at hk341
    apply hR306
    obtain ⟨c342,hv343,hS344⟩:=SlG.cls0 (c:=c327) (os:=c335) hv330 rfl hx325 z9 (Replica.RI (x:=x324) hv336) (Sep.m1 (Sep.m1 hS333))
    have hv345:=SlG.toN hv343
    have he:=qj hk341
    subst he
    simp only [ze,B0,reduceIte,reduceEqDiff]
    exact ⟨pv0_2,pc0_2,c342,by first | trivial | rfl,ph0_2,hv345,(Sep.m2 (Sep.m2 hS344))⟩
   rw [iteF hc338] at hF326
   simp only [zi,qpe,qe,f314,qd,f312,y7,qb,zu,qt,Nat.reduceAdd,Nat.zero_add,Nat.add_zero,qw,qn,B0,reduceIte,
     reduceEqDiff]
   refine qh (v:=pv0_4) ((zt (Sep.bk _ _ _ (Sep.m2 hS333))).trans rfl) ?_
   simp only [qd,jz,B0,reduceIte,reduceEqDiff]
   refine qh (SlG.ia hv330 hx325) ?_
   simp only [qt,qb,Nat.reduceAdd,Nat.zero_add,Nat.add_zero,qw,qn,B0,reduceIte,reduceEqDiff]
   refine qh (v := .int .i64 x324.Known) ((SlG.ld (o:=2) hv330 rfl hx325 hS333 (Nat.le_of_ble_eq_true rfl)).trans rfl) ?_
   simp only [q02,qb,qn9,qd,qa,qk,B0,reduceIte,reduceEqDiff]
   obtain ⟨c346,hv347,hS348⟩:=SlG.cls0 (c:=c327) (os:=c335) hv330 rfl hx325 z9 (Replica.RI (x:=x324) hv336) (Sep.m1 (Sep.m1 hS333))
   have hv349:=SlG.toN hv347
   have e350:=qj hF326
   exact hN304 _ _ _ e350.symm ⟨c346,f312,f313,rfl,f315,hv349,(Sep.m2 (Sep.m2 hS348))⟩ (f317) (f318)
  rintro ⟨s352,s353⟩ fr356 h357 rfl ⟨c354,f359,f360,f361,f362,hv355,hS358⟩
  dsimp only [jnO] at hk300
  dsimp only at *
  unfold qbj at hk300
  simp only [qp3,qf,qe,f360,qt,qb,Nat.reduceAdd,Nat.zero_add,Nat.add_zero,qv,qn,B0,reduceIte,reduceEqDiff]
  refine qh (v := .int .i64 v_1.K) rfl ?_
  simp only [qy,qb,xk,qd,B0,reduceIte,reduceEqDiff]
  refine z8 7 (fun fr' h'=>Sep h' lo ([Blk1 pb0 [.int .i64 v_0.Epoch,.int .i64 v_0.Leader,pv0_2,.int .i64 v_0.High,
    pv0_4] 29]++(pc0_2++(c354++(S0))))∧fr' 255 = .bool ((decide (v_1.K≠0))||(decide (s352≤v_0.High)))∧fr' 0 = .ptr pb0 0∧fr' 9 = .int .i64 s352)
    (fun Q363 hN364=>?_) ?_
  ·simp only [List.take_succ_cons,List.take_zero]
   simp only [qc (g:=248),B0,reduceIte,reduceEqDiff]
   refine zb (t:=(decide (v_1.K≠0))) (fun hg365=>?_) (fun hg365=>?_)
   ·simp only [hg365,qc (g:=248),zv,qu,qb,zf,qa,qk,B0,reduceIte,reduceEqDiff]
    exact hN364 _ _ ⟨(Sep.m2 (Sep.m2 (Sep.m2 hS358))),by rw [orT hg365]; simp only [B0,reduceIte,reduceEqDiff],f359,f361⟩
   ·simp only [hg365,qc (g:=248),qr,f361,qd,f359,y7,qb,zu,qt,Nat.reduceAdd,Nat.zero_add,Nat.add_zero,qw,qn,
     B0,reduceIte,reduceEqDiff]
    refine qh (v := .int .i64 v_0.High) ((zt (Sep.bk _ _ _ hS358)).trans rfl) ?_
    simp only [hg365,qc (g:=248),qr,qy,qb,qjq,qu,zg,qa,qk,B0,reduceIte,reduceEqDiff]
    exact hN364 _ _ ⟨(Sep.m2 (Sep.m2 (Sep.m2 hS358))),by rw [orF hg365]; simp only [B0,reduceIte,reduceEqDiff],f359,f361⟩
  rintro fr366 h370 ⟨hS371,f367,f368,f369⟩
  simp only [List.drop_succ_cons,List.drop_zero]
  simp only [qa,f367,q9,B0,reduceIte,reduceEqDiff]
  refine q8 (t:=((decide (v_1.K≠0))||(decide (s352≤v_0.High)))) (fun hc372=>?_) (fun hc372=>?_)
  ·rw [iteT hc372] at hk300
   simp only [qf,qe,qd,qa,qz,B0,reduceIte,reduceEqDiff]
   have he:=qj hk300
   subst he
   simp only [ze,B0,reduceIte,reduceEqDiff]
   exact ⟨pv0_2,pc0_2,c354,by first | trivial | rfl,ph0_2,hv355,(Sep.m2 (Sep.m2 (Sep.m2 hS371)))⟩
  rw [iteF hc372] at hk300
  simp only [zi,qr0,qf,qe,f368,qd,f369,y7,qb,zu,qt,Nat.reduceAdd,Nat.zero_add,Nat.add_zero,qw,zm,B0,
    reduceIte,reduceEqDiff]
  refine za (us:=[.int .i64 s352]) rfl (cs':=[.int .i64 v_0.Epoch,.int .i64 v_0.Leader,pv0_2,.int .i64 s352,
    pv0_4]) hS371 hW rfl rfl (Nat.le_of_ble_eq_true rfl) rfl (fun h373 hS374=>?_)
  simp only [qa,qf,qe,qd,qz,B0,reduceIte,reduceEqDiff]
  have he:=qj hk300
  subst he
  simp only [ze,B0,reduceIte,reduceEqDiff]
  exact ⟨pv0_2,pc0_2,c354,by first | trivial | rfl,ph0_2,hv355,(Sep.m2 (Sep.m2 (Sep.m2 hS374)))⟩
 rw [iteF hc282] at hF32
 simp only [zi,xb,qf,qe,qd,qa,qz,B0,reduceIte,reduceEqDiff]
 obtain ⟨c376,hv377,hS378⟩:=SlG.cls0 (c:=c35) (os:=c43) hv38 rfl hx31 z9 (Replica.RI (x:=x30) hv44) (Sep.m1 (Sep.m1 hS53))
 have hv379:=SlG.toN hv377
 have he:=qj hF32
 subst he
 simp only [ze,B0,reduceIte,reduceEqDiff]
 exact ⟨pv0_2,pc0_2,c376,by first | trivial | rfl,ph0_2,hv379,(Sep.m2 (Sep.m2 hS378))⟩
theorem qeu {W:Nat→Bool}{h:Heap} (hW:∀ b,
  (geL h.length) b→W b=true) (k:Nat) (replicas_0:Int) (l_1:List IsrStep) (r:Group × (List Bool) × Bool)
  (hF:yg k replicas_0 l_1=some r) : Ret E W 16 [.int .i64 replicas_0,lst IsrStep.cells l_1] h (fun v h'=>∃ rv0_2 rc0_2 rv0_4 rc0_4 rv1 rc1,
  v = .tup [.agg [.int .i64 r.1.Epoch,.int .i64 r.1.Leader,rv0_2,.int .i64 r.1.High,rv0_4],rv1,
  .bool r.2.2]∧SlF cI 1 3 rv0_2 r.1.InStep rc0_2∧SlN Replica.R 3 51 rv0_4 r.1.Replicas rc0_4∧SlF cB 1 4 rv1 r.2.1 rc1∧Sep h' (geL h.length) (rc0_2++(rc0_4++(rc1 ++
  ([]))))):=by
 refine Ret.of (fn:=x16) rfl (Run.of ?_)
 unfold yg at hF
 have zf0:zc [.int .i64 replicas_0,lst IsrStep.cells l_1] 0 = .int .i64 replicas_0:=rfl
 have zf1:zc [.int .i64 replicas_0,lst IsrStep.cells l_1] 1=lst IsrStep.cells l_1:=rfl
 generalize zc [.int .i64 replicas_0,lst IsrStep.cells l_1]=fr0 at zf0 zf1 ⊢
 have hS:Sep h (geL h.length) []:=Sep.nil h
 simp only [x16,qf,qe,jt,B0,reduceIte,reduceEqDiff]
 refine jc hS (fun b1 h2 hS3=>?_)
 simp only [qd,qa,qqr,qf,qe,zf0,zd,B0,reduceIte,reduceEqDiff]
 refine j6 rfl (ql qq (ql qq (ql qq zh))) (wj (fun b hb=>decide_eq_true hb) replicas_0 2 4 _ rfl) ?_
 simp only [jy,qb,kw,qd,B0,reduceIte,reduceEqDiff]
 refine z8 4 (fun fr' h'=>Sep h' (geL h.length) ([Blk1 b1 [.int .i64 0,.int .i64 0,.nil,.int .i64 0,
   .nil] 29]++([]))∧fr' 18 = .bool ((!(zp replicas_0 2 4))||(decide ((100:Int) <
   (List.length l_1:Int))))∧fr' 0 = .int .i64 replicas_0∧fr' 1=lst IsrStep.cells l_1∧fr' 4 = .ptr b1 0) (fun Q5 hN6=>?_) ?_
 ·simp only [List.take_succ_cons,List.take_zero]
  simp only [qc (g:=14),B0,reduceIte,reduceEqDiff]
  refine zb (t:=(!(zp replicas_0 2 4))) (fun hg7=>?_) (fun hg7=>?_)
  ·simp only [hg7,qc (g:=14),zv,qu,qb,zf,qa,qk,B0,reduceIte,reduceEqDiff]
   exact hN6 _ _ ⟨hS3,by rw [orT hg7]; simp only [B0,reduceIte,reduceEqDiff],zf0,zf1,rfl⟩
  ·simp only [hg7,qc (g:=14),qr,zf1,qd,zw,qb,jh,qy,qd5,qu,zg,qa,qk,B0,reduceIte,
    reduceEqDiff]
   exact hN6 _ _ ⟨hS3,by rw [orF hg7]; simp only [B0,reduceIte,reduceEqDiff],zf0,zf1,rfl⟩
 rintro fr8 h13 ⟨hS14,f9,f10,f11,f12⟩
 simp only [List.drop_succ_cons,List.drop_zero]
 simp only [qa,qwq,f9,q9,B0,reduceIte,reduceEqDiff]
 refine q8 (t:=((!(zp replicas_0 2 4))||(decide ((100:Int)<(List.length l_1:Int))))) (fun hc15=>?_) (fun hc15=>?_)
 ·rw [iteT hc15] at hF
  simp only [qud,qf,qe,run_build,evp,B0,reduceIte,reduceEqDiff]
  refine qh (v := .agg [.int .i64 0,.int .i64 0,.nil,.int .i64 0,.nil]) rfl ?_
  simp only [f12,zm,B0,reduceIte,reduceEqDiff]
  refine za (us:=[.int .i64 0,.int .i64 0,.nil,.int .i64 0,.nil]) rfl (cs':=[.int .i64 0,.int .i64 0,.nil,.int .i64 0,
    .nil]) hS14 hW rfl rfl (Nat.le_of_ble_eq_true rfl) rfl (fun h16 hS17=>?_)
  simp only [qd,qa,qz,B0,reduceIte,reduceEqDiff]
  have he:=qj hF
  subst he
  refine yi (ql (wa (bb:=b1) (oo:=0) (v := .agg [.int .i64 0,.int .i64 0,.nil,.int .i64 0,
    .nil]) (f12) ((jg (Sep.bk _ _ _ hS17)).trans rfl)) (ql (wx (v := .nil) (rfl)) (ql (wx (v := .bool false) (rfl)) zh))) ?_
  exact ⟨.nil,[],.nil,[],.nil,[],by first | trivial | rfl,SlF.nil,SlN.nil,SlF.nil,((Sep.dc (hS17)) : Sep _ (geL h.length) ([]))⟩
 rw [iteF hc15] at hF
 obtain ⟨v18,hx19,hF20⟩:=qi hF
 simp only [zi,qqx,qf,qe,f10,qd,zd,B0,reduceIte,reduceEqDiff]
 refine qcd rfl hS14 (ql qq zh) (qio (fun b hb=>decide_eq_true hb) replicas_0 v18 hx19) ?_
 rintro _ h29 ⟨v21,c22,v25,c26,rfl,hv23,hv27,hS30⟩
 refine ⟨_,qiz (qm rfl (qm rfl (qm (SlF.free1 hv23) (qm rfl (qm (SlN.free1 hv27) zq))))),hS30,
   (yf (SlF.pf hv23 (fun _=>rfl)) (yf (SlN.pf hv27 Replica.RO) qar)),fun h31 hS32=>?_⟩
 have hS33:Sep h31 (geL h.length) (c22++(c26++([Blk1 b1 [.int .i64 0,.int .i64 0,.nil,.int .i64 0,.nil] 29]++([])))):=by simpa only [List.append_assoc,
   List.nil_append] using hS32
 simp only [jt,B0,reduceIte,reduceEqDiff]
 refine jc hS33 (fun b34 h35 hS36=>?_)
 simp only [zm,B0,reduceIte,reduceEqDiff]
 refine za (us:=[.int .i64 v18.Epoch,.int .i64 v18.Leader,v21,.int .i64 v18.High,v25]) rfl (cs':=[.int .i64 v18.Epoch,.int .i64 v18.Leader,v21,
   .int .i64 v18.High,v25]) hS36 hW rfl (qm rfl (qm rfl (qm (SlF.one hv23) (qm rfl (qm (SlN.one hv27) zq))))) (Nat.le_of_ble_eq_true rfl) rfl
   (fun h38 hS39=>?_)
 simp only [qa,q0k,qf,qe,kz,evp,B0,reduceIte,reduceEqDiff]
 refine j9 (n:=1) (f:=cB) ([] : List Bool) hS39 rfl rfl (fun v40 c41 h42 hv43 hS44=>?_)
 simp only [qd,qa,qul,qf,qe,f11,zw,qb,jh,B0,reduceIte,reduceEqDiff]
 obtain ⟨oc74,hX76,hk77⟩:=ki hF20
 simp only [qum]
 refine wq (σ:=(List Bool) × Group × (List Replica)) l_1 (fun i72 x73 s131=>ub k i72 x73 s131.1 s131.2.1 s131.2.2)
   (fun s fr' h'=>∃ v61 c62 v66 c67 c70,
   fr' 4 = .ptr b1 0∧fr' 7 = .ptr b34 0∧fr' 8=v61∧fr' 23=lst IsrStep.cells l_1∧SlF cB 1 4 v61 s.1 c62∧SlF cI 1 3 v66 s.2.1.InStep c67∧SlN Replica.R 3 51 v25 s.2.2 c70∧Sep h'
   (geL h.length) ([Blk1 b1 [.int .i64 0,.int .i64 0,.nil,.int .i64 0,.nil] 29]++([Blk1 b34 [.int .i64 s.2.1.Epoch,.int .i64 s.2.1.Leader,v66,.int .i64 s.2.1.High,
   v25] 29]++(c62++(c67++(c70++([]))))))) hX76 ⟨v40,c41,v21,c22,c26,f12,rfl,rfl,rfl,hv43,hv23,hv27,
   (Sep.m4 (Sep.m3 (Sep.m2 (Sep.m3 (Sep.m3 hS44)))))⟩ (by simp only [B0,reduceIte,reduceEqDiff]) (by simp only [B0,reduceIte,
   reduceEqDiff]) (fun _ _ _ h=>h) rfl rfl (fun _ _ _ _ h=>h) (fun _ _ _ _ h=>h) (fun _ _ _ _ h=>h) (by decide) ?_ ?_
 ·rintro i72 x73 ⟨s59,s64,s69⟩ fr86 h87 hx93 ⟨v61,c62,v66,c67,c70,f89,f90,f91,f92,hv63,hv68,hv71,hS88⟩ f94 f95 oc75 hF78 hr79 Q80 hN81 hB85 hK82 hR83 hE84
  dsimp only at *
  unfold ub at hF78
  simp only [qvy,qf,qe,f92,f94,jz,B0,reduceIte,reduceEqDiff]
  refine qh (v := .ref (IsrStep.cells x73) 0) (wn hx93 rfl) ?_
  simp only [qn,B0,reduceIte,reduceEqDiff]
  refine qh (v := .agg [.int .i64 x73.Kind,.int .i64 x73.K,.int .i64 x73.N]) rfl ?_
  simp only [jt,B0,reduceIte,reduceEqDiff]
  refine jc hS88 (fun b96 h97 hS98=>?_)
  simp only [zm,B0,reduceIte,reduceEqDiff]
  refine za (us:=[.int .i64 x73.Kind,.int .i64 x73.K,.int .i64 x73.N]) rfl (cs':=[.int .i64 x73.Kind,.int .i64 x73.K,
    .int .i64 x73.N]) hS98 hW rfl rfl (Nat.le_of_ble_eq_true rfl) rfl (fun h100 hS101=>?_)
  simp only [qa,B0,reduceIte,reduceEqDiff]
  refine jm hS101 hW (by simp only [B0,reduceIte,reduceEqDiff]) (fun h102 hS103=>?_)
  simp only [jb,qvn,qe,f91,qd,qn,B0,reduceIte,reduceEqDiff]
  refine qh (v := .agg [.int .i64 x73.Kind,.int .i64 x73.K,.int .i64 x73.N]) rfl ?_
  obtain ⟨v104,hx105,hF106⟩:=qi hF78
  simp only [f90,zd,B0,reduceIte,reduceEqDiff]
  refine yp rfl (qhj hW k b34 (Group.mk s64.Epoch s64.Leader s64.InStep s64.High s69) v66 c67 hv68 v25 c70 hv71 x73 v104 hx105 (Sep.m3 (Sep.m4
    (Sep.m4 hS103)))) ?_
  rintro _ h113 ⟨v107,c108,c111,rfl,hv109,hv112,hS114⟩
  simp only [kz,evp,B0,reduceIte,reduceEqDiff]
  refine j9 (n:=1) (f:=cB) [v104.1] hS114 rfl rfl (fun v115 c116 h117 hv118 hS119=>?_)
  simp only [wv,B0,reduceIte,reduceEqDiff]
  obtain ⟨l121,hx122,hF123⟩:=qi hF106
  refine yv (f:=cB) hv63 (Sep.m5 hS119) hW (fun _=>rfl) (fun _=>rfl) (SlF.first hv118 hS119 (fun _=>rfl)) hx122 (fun v124 c125 h126 hv127 hS128=>?_)
  simp only [qd,qa,qk,B0,reduceIte,reduceEqDiff]
  have e130:=qj hF123
  exact hN81 _ _ _ e130.symm ⟨v124,c125,v107,c108,c111,f89,f90,rfl,f92,hv127,hv109,hv112,
    (Sep.m4 (Sep.m3 (Sep.m2 (Sep.m3 (Sep.m3 (Sep.dc (Sep.m1 hS128)))))))⟩ (f94) (f95)
 rintro ⟨s132,s137,s142⟩ fr145 h146 rfl ⟨v134,c135,v139,c140,c143,f148,f149,f150,f151,hv136,hv141,hv144,hS147⟩
 dsimp only [jnO] at hk77
 dsimp only at *
 unfold qd7 at hk77
 simp only [qxc,qf,qe,f149,qn,B0,reduceIte,reduceEqDiff]
 refine qh (v := .agg [.int .i64 s137.Epoch,.int .i64 s137.Leader,v139,.int .i64 s137.High,v25]) ((jg (Sep.bk _ _ _ (Sep.m1 hS147))).trans rfl) ?_
 simp only [f150,qd,f148,zm,B0,reduceIte,reduceEqDiff]
 refine za (us:=[.int .i64 s137.Epoch,.int .i64 s137.Leader,v139,.int .i64 s137.High,v25]) rfl (cs':=[.int .i64 s137.Epoch,.int .i64 s137.Leader,v139,
   .int .i64 s137.High,v25]) hS147 hW rfl (qm rfl (qm rfl (qm (SlF.one hv141) (qm rfl (qm (SlN.one hv144) zq))))) (Nat.le_of_ble_eq_true rfl) rfl
   (fun h152 hS153=>?_)
 simp only [qd,qa,qz,B0,reduceIte,reduceEqDiff]
 have he:=qj hk77
 subst he
 refine yi (ql (wa (bb:=b1) (oo:=0) (v := .agg [.int .i64 s137.Epoch,.int .i64 s137.Leader,v139,.int .i64 s137.High,
   v25]) (f148) ((jg (Sep.bk _ _ _ hS153)).trans rfl)) (ql (wx (v:=v134) (rfl)) (ql (wx (v := .bool true) (rfl)) zh))) ?_
 exact ⟨v139,c140,v25,c143,v134,c135,by first | trivial | rfl,hv141,hv144,hv136,(Sep.m2 (Sep.m2 (Sep.dc ((Sep.dc (hS153))))))⟩
end Go.Proofs.Ytefgfcalgjmhjaa.X
