/- The functions' code comes to what the plain functions say (4). -/
import Derived.Test.YtanblnjomhgphaaXBH3
open Go.IntKind renaming wrap→r8
open List renaming append_assoc→t7,drop_succ_cons→s6,drop_zero→t3,length→p9,nil_append→a08,set→a1b,take_succ_cons→s5,take_zero→t4
open Nat renaming add_zero→o9,reduceAdd→o7,reduceEqDiff→a8,zero_add→o8
open Go.Proofs.Ytanblnjomhgphaa.X.Sep renaming bk→a0g,dc→a0k,m1→t6,m2→s9,m3→t5,m4→a0j,m5→t8,m6→a20,ni2→a1f,nil→a14,no2→a2j
open Go.Proofs.Ytanblnjomhgphaa.X.SlF renaming one→a01,plen→a1p
open Go.Proofs.Ytanblnjomhgphaa.X.SlG renaming cls0→a1h,ld→a15,opn→a2d,toN→a1e
open Go.Proofs.Ytanblnjomhgphaa.X.SlN renaming free1→a2v,isrow→a24,nil→a2u,one→a0n,toG→a2f
set_option linter.unusedVariables false
set_option linter.unusedSimpArgs false
set_option maxRecDepth 100000
set_option maxHeartbeats 1000000
namespace Go.Proofs.Ytanblnjomhgphaa.X
open Go
theorem qle {W:Nat→Bool}{h:Heap}{lo:Nat→Prop}{S0:List Obj} (hW:∀ b,
  lo b→W b=true) (k:Nat) (pb0:Nat) (d8:L1Cur) (a9:Int) (r:(List RaftStep) × L1Cur) (hF:qcl k d8 a9=some r) (hS:Sep h lo
  ([Blk1 pb0 [lst cU8 d8.code,.int .i64 d8.at_,.int .u64 d8.seed] 78]++(S0))) : Ret E W 43 [.ptr pb0 0,.int .i64 a9] h (fun v h'=>∃ rv0 rc0,
  v=rv0∧SlF jm 4 57 rv0 r.1 rc0∧Sep h' lo (rc0++([Blk1 pb0 [lst cU8 r.2.code,.int .i64 r.2.at_,.int .u64 r.2.seed] 78]++(S0)))):=by
 refine Ret.of (fn:=x43) rfl (Run.of ?_)
 unfold qcl at hF
 have zf0:zk [.ptr pb0 0,.int .i64 a9] 0 = .ptr pb0 0:=rfl
 have zf1:zk [.ptr pb0 0,.int .i64 a9] 1 = .int .i64 a9:=rfl
 generalize zk [.ptr pb0 0,.int .i64 a9]=fr0 at zf0 zf1 ⊢
 obtain ⟨v1,hx2,hF3⟩:=qk hF
 simp only [x43,qf,qe,qg,qa,qvm,qy7,zf0,zi,B0,reduceIte,a8]
 refine yx rfl (yl hW pb0 d8 50 v1 hx2 hS) ?_
 rintro _ h4 ⟨rfl,hS5⟩
 obtain ⟨v6,hx7,hF8⟩:=qk hF3
 simp only [qg,qa,qx4,qf,qe,zf0,zi,B0,reduceIte,a8]
 refine yx rfl (qjd hW pb0 v1.2 8 v6 hx7 hS5) ?_
 rintro _ h9 ⟨rfl,hS10⟩
 simp only [qa,q9y,q8,B0,reduceIte,a8]
 obtain ⟨sv16,hX14,hk15⟩:=qk hF8
 refine wj (t:=v6.1) (fun fr' h'=>fr' 0 = .ptr pb0 0∧fr' 1 = .int .i64 a9∧fr' 5 = .nil∧fr' 6 = .int .i64 sv16.1∧Sep h' lo ([Blk1 pb0 [lst cU8 sv16.2.code,
   .int .i64 sv16.2.at_,.int .u64 sv16.2.seed] 78]++(S0))) (fun Q17 hN18 hR19 hE20=>⟨fun hc21=>?_,fun hc21=>?_⟩) ?_
 ·rw [iteT hc21] at hX14
  obtain ⟨v22,hx23,hF24⟩:=qk hX14
  simp only [q87,qe,zf0,qg,zi,B0,reduceIte,a8]
  refine yx rfl (yl hW pb0 v6.2 12 v22 hx23 hS10) ?_
  rintro _ h25 ⟨rfl,hS26⟩
  simp only [qx,qb,ur,qg,qa,qm,B0,reduceIte,a8]
  have e27:=qj hF24
  subst e27
  exact hN18 _ _ ⟨zf0,zf1,rfl,rfl,hS26⟩
 ·rw [iteF hc21] at hX14
  simp only [zd,qm,B0,reduceIte,a8]
  have e28:=qj hX14
  subst e28
  exact hN18 _ _ ⟨zf0,zf1,rfl,rfl,hS10⟩
 rintro fr29 h30 ⟨f32,f33,f34,f35,hS31⟩
 obtain ⟨s11,s12⟩:=sv16
 dsimp only at *
 unfold qcb at hk15
 obtain ⟨v36,hx37,hF38⟩:=qk hk15
 simp only [qsy,qf,qe,f33,qg,zi,B0,reduceIte,a8]
 refine qgh rfl hS31 (qt zb zm) (qiq (fun b hb=>decide_eq_true hb) k a9 v36 hx37) ?_
 rintro _ h47 ⟨v39,c40,v43,c44,rfl,hv41,hv45,hS48⟩
 refine ⟨_,qhm (qp (qka (qp (a2v hv41) (qp (a2v hv45) zp))) (qp rfl zp)),hS48,
   (wu (SlN.pf hv41 Peer.RO) (wu (SlN.pf hv45 Mail.RO) qda)),fun h49 hS50=>?_⟩
 have hS51:Sep h49 lo (c40++(c44++([Blk1 pb0 [lst cU8 s12.code,.int .i64 s12.at_,.int .u64 s12.seed] 78]++(S0)))):=by simpa only [t7,
   a08] using hS50
 simp only [qg,qaz,qb,qa9,qbd,ji,B0,reduceIte,a8]
 refine z6 hS51 (fun b52 h53 hS54=>?_)
 simp only [zh,B0,reduceIte,a8]
 refine qy (us:=[v39,v43]) rfl (cs':=[v39,v43]) hS54 hW rfl (qp (a0n hv41) (qp (a0n hv45) zp)) (nle rfl) rfl (fun h56 hS57=>?_)
 simp only [qg,qa,qs9,qf,B0,reduceIte,a8]
 obtain ⟨oc92,hX94,hk95⟩:=kd hF38
 simp only [qtm]
 refine qit (σ:=(List RaftStep) × Int × L1Cur × Raft) (fun s528=>w8 k a9 v36 s528.1 s528.2.1 s528.2.2.1 s528.2.2.2)
   (fun s fr' h'=>∃ v76 c77 v83 c84 v87 c88,
   fr' 0 = .ptr pb0 0∧fr' 1 = .int .i64 a9∧fr' 5=v76∧fr' 6 = .int .i64 s.2.1∧fr' 7 = .ptr b52 0∧fr' 8 = .bool v36.2∧SlF jm 4 57 v76 s.1 c77∧SlN Peer.R 5 43 v83 s.2.2.2.Peers c84∧SlA Mail.R 9 86 v87 s.2.2.2.Mail c88∧Sep h' lo
   ([Blk1 pb0 [lst cU8 s.2.2.1.code,.int .i64 s.2.2.1.at_,.int .u64 s.2.2.1.seed] 78]++(c77++([Blk1 b52 [v83,v87] 29]++(c84++(c88++(S0))))))) hX94 ⟨.nil,[],v39,
   c40,v43,c44,f32,f33,f34,f35,rfl,rfl,SlF.nil,hv41,(SlN.toA hv45 Mail.RO.len),((t5 (s9 (s9 (s9 hS57)))) : Sep _ lo ([Blk1 pb0 [lst cU8 s12.code,
   .int .i64 s12.at_,.int .u64 s12.seed] 78]++([Blk1 b52 [v39,v43] 29]++(c40++(c44++(S0))))))⟩ (fun _ _ _ h=>h) ?_ ?_
 ·rintro ⟨s74,s79,s80,s81⟩ fr104 h105 ⟨v76,c77,v83,c84,v87,c88,f107,f108,f109,f110,f111,f112,hv78,hv85,hv89,hS106⟩ oc93 hF96 hr97 Q98 hN99 hK100 hR101 hE102
  dsimp only at *
  unfold w8 at hF96
  simp only [qsq,qf,qe,f110,qg,qx,qb,ww,qa,q8,B0,reduceIte,a8]
  refine q9 (t:=(decide ((0:Int)<s79))) (fun hc114=>?_) (fun hc114=>?_)
  ·rw [iteT hc114] at hF96
   simp only [zd,que,qf,wx,qts,qe,f107,qg,jy,evp,B0,reduceIte,a8]
   refine kg (n:=1) (f:=cI) [2,2,3,3,3,4,4,4,4,4,4,5,6,7,7] hS106 rfl rfl (fun v115 c116 h117 hv118 hS119=>?_)
   obtain ⟨v121,hx122,hF123⟩:=qk hF96
   simp only [zi,B0,reduceIte,a8]
   refine yx rfl (qpv hW pb0 s80 v115 c116 [2,2,3,3,3,4,4,4,4,4,4,5,6,7,7] hv118 v121 hx122 (t6 hS119)) ?_
   rintro _ h126 ⟨c124,rfl,hv125,hS127⟩
   simp only [run_build,evp,B0,reduceIte,a8]
   refine qd (v := .agg [.int .i64 v121.1,.int .i64 0,.int .i64 0,.int .i64 0]) rfl ?_
   simp only [ji,B0,reduceIte,a8]
   refine z6 hS127 (fun b128 h129 hS130=>?_)
   simp only [zh,B0,reduceIte,a8]
   refine qy (us:=[.int .i64 v121.1,.int .i64 0,.int .i64 0,.int .i64 0]) rfl (cs':=[.int .i64 v121.1,.int .i64 0,.int .i64 0,
     .int .i64 0]) hS130 hW rfl rfl (nle rfl) rfl (fun h132 hS133=>?_)
   simp only [qa,qyd,qf,qe,f109,qg,zq,qb,a1p hv78,qx,ku,B0,reduceIte,a8]
   obtain ⟨sv139,hX137,hk138⟩:=qk hF123
   refine jf 3 (fun fr' h'=>fr' 0 = .ptr pb0 0∧fr' 1 = .int .i64 a9∧fr' 5=v76∧fr' 6 = .int .i64 s79∧fr' 7 = .ptr b52 0∧fr' 8 = .bool v36.2∧fr' 9 = .ptr b128 0∧fr' 39 = .bool sv139.1∧Sep h' lo
     ([Blk1 pb0 [lst cU8 sv139.2.code,.int .i64 sv139.2.at_,.int .u64 sv139.2.seed] 78]++(c77++([Blk1 b52 [v83,v87] 29]++([Blk1 b128 [.int .i64 v121.1,.int .i64 0,
     .int .i64 0,.int .i64 0] 57]++(c84++(c88++(S0)))))))) (fun Q140 hN141=>?_) ?_
   ·simp only [s5,t4]
    simp only [qc (g:=36),B0,reduceIte,a8]
    refine zf (t:=(decide ((p9 s74:Int)=0))) (fun hg144=>?_) (fun hg144=>?_)
    ·rw [iteT hg144] at hX137
     simp only [hg144,qc (g:=36),zx,qw,qb,zo,qa,qm,B0,reduceIte,a8]
     have e145:=qj hX137
     subst e145
     exact hN141 _ _ ⟨f107,f108,f109,f110,f111,f112,rfl,rfl,(t8 (t8 (t8 (s9 (t8 (t8 (a0k (s9 hS133))))))))⟩
    ·rw [iteF hg144] at hX137
     obtain ⟨v146,hx147,hF148⟩:=qk hX137
     simp only [hg144,qc (g:=36),qr,f107,qg,zi,B0,reduceIte,a8]
     refine yx rfl (qjd hW pb0 v121.2.1 12 v146 hx147 (t6 hS133)) ?_
     rintro _ h149 ⟨rfl,hS150⟩
     simp only [hg144,qw,qb,zn,qa,qm,B0,reduceIte,a8]
     have e151:=qj hF148
     subst e151
     exact hN141 _ _ ⟨f107,f108,f109,f110,f111,f112,rfl,rfl,(t8 (t8 (t8 (t5 (t8 (t8 (a0k (s9 hS150))))))))⟩
   rintro fr152 h153 ⟨f155,f156,f157,f158,f159,f160,f161,f162,hS154⟩
   obtain ⟨s134,s135⟩:=sv139
   dsimp only at *
   unfold qb0 at hk138
   simp only [s6,t3]
   simp only [qa,q7b,f162,q8,B0,reduceIte,a8]
   obtain ⟨s163,hX165,hk166⟩:=qk hk138
   refine wj (t:=s134) (fun fr' h'=>fr' 0 = .ptr pb0 0∧fr' 1 = .int .i64 a9∧fr' 5=v76∧fr' 6 = .int .i64 s79∧fr' 7 = .ptr b52 0∧fr' 8 = .bool v36.2∧fr' 9 = .ptr b128 0∧Sep h' lo
     ([Blk1 pb0 [lst cU8 s135.code,.int .i64 s135.at_,.int .u64 s135.seed] 78]++(c77++([Blk1 b52 [v83,v87] 29]++([Blk1 b128 [.int .i64 s163.Kind,.int .i64 s163.K,
     .int .i64 s163.To,.int .i64 s163.N] 57]++(c84++(c88++(S0)))))))) (fun Q167 hN168 hR169 hE170=>⟨fun hc171=>?_,fun hc171=>?_⟩) ?_
   ·rw [iteT hc171] at hX165
    simp only [qe,f161,qo,qb,o7,o8,o9,qv,zh,B0,reduceIte,a8]
    refine qy (us:=[.int .i64 1]) rfl (cs':=[.int .i64 1,.int .i64 0,.int .i64 0,.int .i64 0]) (t5 hS154) hW rfl rfl (nle rfl) rfl (fun h172 hS173=>?_)
    simp only [qa,qm,B0,reduceIte,a8]
    have e174:=qj hX165
    subst e174
    exact hN168 _ _ ⟨f155,f156,f157,f158,f159,f160,f161,(t8 (t8 (t8 (s9 (t8 (t8 hS173))))))⟩
   ·rw [iteF hc171] at hX165
    simp only [zd,qm,B0,reduceIte,a8]
    have e175:=qj hX165
    subst e175
    exact hN168 _ _ ⟨f155,f156,f157,f158,f159,f160,f161,(t8 (t8 (t8 (t8 (t8 (t8 hS154))))))⟩
   rintro fr176 h177 ⟨f179,f180,f181,f182,f183,f184,f185,hS178⟩
   unfold qbw at hk166
   simp only [qzf,qf,qe,f185,qo,qb,o7,o8,o9,qv,ql,B0,reduceIte,a8]
   refine qd (v := .int .i64 s163.Kind) ((ja (a0g _ _ _ (t5 hS178))).trans rfl) ?_
   simp only [qa,qxh,wx,qwu,qf,qe,qx,qb,ku,qg,qyp,q8,B0,reduceIte,a8]
   obtain ⟨sv194,hX192,hk193⟩:=qk hk166
   refine wj (t:=(decide (s163.Kind=1))) (fun fr' h'=>∃ c189,
     fr' 0 = .ptr pb0 0∧fr' 1 = .int .i64 a9∧fr' 5=v76∧fr' 6 = .int .i64 s79∧fr' 7 = .ptr b52 0∧fr' 8 = .bool v36.2∧fr' 9 = .ptr b128 0∧SlN Peer.R 5 43 v83 sv194.2.2 c189∧Sep h' lo
     ([Blk1 pb0 [lst cU8 sv194.1.code,.int .i64 sv194.1.at_,.int .u64 sv194.1.seed] 78]++(c77++([Blk1 b52 [v83,v87] 29]++([Blk1 b128 [.int .i64 sv194.2.1.Kind,
     .int .i64 sv194.2.1.K,.int .i64 sv194.2.1.To,.int .i64 sv194.2.1.N] 57]++(c189++(c88++(S0)))))))) (fun Q195 hN196 hR197 hE198=>⟨fun hc199=>?_,
     fun hc199=>?_⟩) ?_
   ·rw [iteT hc199] at hX192
    obtain ⟨v200,hx201,hF202⟩:=qk hX192
    simp only [q3k,qf,qe,f179,qg,f180,zi,B0,reduceIte,a8]
    refine yx rfl (yl hW pb0 s135 a9 v200 hx201 hS178) ?_
    rintro _ h203 ⟨rfl,hS204⟩
    simp only [f185,qo,qb,o7,o8,o9,qv,zh,B0,reduceIte,a8]
    refine qy (us:=[.int .i64 v200.1]) rfl (cs':=[.int .i64 s163.Kind,.int .i64 v200.1,.int .i64 s163.To,
      .int .i64 s163.N]) (t5 hS204) hW rfl rfl (nle rfl) rfl (fun h205 hS206=>?_)
    simp only [qa,q3z,jg,f185,qki,qi,o7,o8,o9,qv,qh6,B0,reduceIte,a8]
    refine qmp (Sep.ltk hS206) ?_
    refine qq (v := .int .i64 v200.1) ((ja (a0g _ _ _ hS206)).trans rfl) ?_
    obtain ⟨hp207,hF208⟩:=qa2 hF202
    obtain ⟨hp209,hF210⟩:=qa2 hF208
    obtain ⟨v211,hx212,hF213⟩:=qk hF210
    simp only [zdo,qi,qfq,qyb,qnd (n:=(r8 .u64 v200.1)) hp207,f179,zz,f180,qop,j5,
      qnd (n:=(r8 .u64 a9)) hp209,qgj,B0,reduceIte,a8]
    refine zcy rfl (ms:=[pb0]) rfl (zfa (Sep.bne (t6 hS206)) zdw) hW (t6 hS206) rfl (Nat.le_refl _) (fun b hb=>((a0k (t6 hS206)).ran b hb).2)
      (fun hWq hSq=>yl hWq pb0 v200.2 (qde .i64 1 (r8 .u64 a9)) v211 hx212 hSq) ?_
    rintro _ h214 ⟨rfl,hS215⟩ hback
    replace hS215:=hback _ hS215
    simp only [j5,qi,ze3,f185,zl,o7,o8,o9,qv,xx,B0,reduceIte,a8]
    refine ua (us:=[.int .i64 (wor .i64 (qde .i64 1 (r8 .u64 v200.1)) v211.1)]) rfl (cs':=[.int .i64 s163.Kind,.int .i64 v200.1,.int .i64 s163.To,
      .int .i64 (wor .i64 (qde .i64 1 (r8 .u64 v200.1)) v211.1)]) (t6 hS215) hW rfl rfl (nle rfl) rfl (fun h216 hS217=>?_)
    simp only [za,qm,B0,reduceIte,a8]
    have e218:=qj hF213
    subst e218
    exact hN196 _ _ ⟨c84,f179,f180,f181,f182,f183,f184,f185,hv85,(t8 (t8 (t8 (s9 (t8 (t8 hS217))))))⟩
   ·rw [iteF hc199] at hX192
    simp only [qu8,qf,qe,qx,qb,ku,qg,qa,q30,q8,B0,reduceIte,a8]
    obtain ⟨s219,hX221,hk222⟩:=qk hX192
    refine wj (t:=(decide (s163.Kind=4)))
      (fun fr' h'=>fr' 0 = .ptr pb0 0∧fr' 1 = .int .i64 a9∧fr' 5=v76∧fr' 6 = .int .i64 s79∧fr' 7 = .ptr b52 0∧fr' 8 = .bool v36.2∧fr' 9 = .ptr b128 0∧fr' 113 = .bool s219∧Sep h' lo
      ([Blk1 pb0 [lst cU8 s135.code,.int .i64 s135.at_,.int .u64 s135.seed] 78]++(c77++([Blk1 b52 [v83,v87] 29]++([Blk1 b128 [.int .i64 s163.Kind,.int .i64 s163.K,
      .int .i64 s163.To,.int .i64 s163.N] 57]++(c84++(c88++(S0)))))))) (fun Q223 hN224 hR225 hE226=>⟨fun hc227=>?_,fun hc227=>?_⟩) ?_
    ·rw [iteT hc227] at hX221
     simp only [zd,qm,B0,reduceIte,a8]
     have e228:=qj hX221
     subst e228
     exact hN224 _ _ ⟨f179,f180,f181,f182,f183,f184,f185,rfl,(t8 (t8 (t8 (t8 (t8 (t8 hS178))))))⟩
    ·rw [iteF hc227] at hX221
     simp only [q4k,qf,qe,qx,qb,ku,qg,qa,q4e,q8,B0,reduceIte,a8]
     refine q9 (t:=(decide (s163.Kind=5))) (fun hc229=>?_) (fun hc229=>?_)
     ·rw [iteT hc229] at hX221
      simp only [zd,qm,B0,reduceIte,a8]
      have e230:=qj hX221
      subst e230
      exact hN224 _ _ ⟨f179,f180,f181,f182,f183,f184,f185,rfl,(t8 (t8 (t8 (t8 (t8 (t8 hS178))))))⟩
     rw [iteF hc229] at hX221
     simp only [qe,qx,qb,ku,qg,qa,qm,B0,reduceIte,a8]
     have e231:=qj hX221
     subst e231
     exact hN224 _ _ ⟨f179,f180,f181,f182,f183,f184,f185,rfl,(t8 (t8 (t8 (t8 (t8 (t8 hS178))))))⟩
    rintro fr232 h233 ⟨f235,f236,f237,f238,f239,f240,f241,f242,hS234⟩
    unfold qb2 at hk222
    simp only [qug,f242,q8,B0,reduceIte,a8]
    refine q9 (t:=s219) (fun hc243=>?_) (fun hc243=>?_)
    ·rw [iteT hc243] at hk222
     obtain ⟨v244,hx245,hF246⟩:=qk hk222
     simp only [q37,qe,f235,qg,zi,B0,reduceIte,a8]
     refine yx rfl (yl hW pb0 s135 4 v244 hx245 hS234) ?_
     rintro _ h247 ⟨rfl,hS248⟩
     simp only [f241,qo,qb,o7,o8,o9,qv,zh,B0,reduceIte,a8]
     refine qy (us:=[.int .i64 v244.1]) rfl (cs':=[.int .i64 s163.Kind,.int .i64 v244.1,.int .i64 s163.To,
       .int .i64 s163.N]) (t5 hS248) hW rfl rfl (nle rfl) rfl (fun h249 hS250=>?_)
     simp only [qa,qm,B0,reduceIte,a8]
     have e251:=qj hF246
     subst e251
     exact hN196 _ _ ⟨c84,f235,f236,f237,f238,f239,f240,f241,hv85,(t8 (t8 (t8 (s9 (t8 (t8 hS250))))))⟩
    rw [iteF hc243] at hk222
    obtain ⟨v252,hx253,hF254⟩:=qk hk222
    simp only [qst,qf,qe,f235,qg,f236,zi,B0,reduceIte,a8]
    refine yx rfl (yl hW pb0 s135 a9 v252 hx253 hS234) ?_
    rintro _ h255 ⟨rfl,hS256⟩
    simp only [f241,qo,qb,o7,o8,o9,qv,zh,B0,reduceIte,a8]
    refine qy (us:=[.int .i64 v252.1]) rfl (cs':=[.int .i64 s163.Kind,.int .i64 v252.1,.int .i64 s163.To,
      .int .i64 s163.N]) (t5 hS256) hW rfl rfl (nle rfl) rfl (fun h257 hS258=>?_)
    simp only [qa,qv7,qf,qe,qg,B0,reduceIte,a8]
    obtain ⟨oc265,hX267,hk268⟩:=kd hF254
    simp only [quw]
    refine qit (σ:=Int × RaftStep) (fun s351=>yu a9 v36 s81 s351.1 s351.2)
      (fun s fr' h'=>fr' 0 = .ptr pb0 0∧fr' 1 = .int .i64 a9∧fr' 5=v76∧fr' 6 = .int .i64 s79∧fr' 7 = .ptr b52 0∧fr' 8 = .bool v36.2∧fr' 9 = .ptr b128 0∧fr' 10 = .int .i64 s.1∧Sep h' lo
      ([Blk1 pb0 [lst cU8 v252.2.code,.int .i64 v252.2.at_,.int .u64 v252.2.seed] 78]++(c77++([Blk1 b52 [v83,v87] 29]++([Blk1 b128 [.int .i64 s.2.Kind,
      .int .i64 s.2.K,.int .i64 s.2.To,.int .i64 s.2.N] 57]++(c84++(c88++(S0)))))))) hX267 ⟨f235,f236,f237,f238,f239,f240,f241,rfl,
      (t8 (t8 (t8 (s9 (t8 (t8 hS258))))))⟩ (fun _ _ _ h=>h) ?_ ?_
    ·rintro ⟨s261,s262⟩ fr277 h278 ⟨f280,f281,f282,f283,f284,f285,f286,f287,hS279⟩ oc266 hF269 hr270 Q271 hN272 hK273 hR274 hE275
     dsimp only at *
     unfold yu at hF269
     simp only [qzy,qf,qe,f285,qg,B0,reduceIte,a8]
     refine jf 4 (fun fr' h'=>Sep h' lo ([Blk1 pb0 [lst cU8 v252.2.code,.int .i64 v252.2.at_,.int .u64 v252.2.seed] 78]++(c77++([Blk1 b52 [v83,
       v87] 29]++([Blk1 b128 [.int .i64 s262.Kind,.int .i64 s262.K,.int .i64 s262.To,
       .int .i64 s262.N] 57]++(c84++(c88++(S0)))))))∧fr' 52 = .bool (v36.2&&(decide
       (s261<a9)))∧fr' 0 = .ptr pb0 0∧fr' 1 = .int .i64 a9∧fr' 5=v76∧fr' 6 = .int .i64 s79∧fr' 7 = .ptr b52 0∧fr' 8 = .bool v36.2∧fr' 9 = .ptr b128 0∧fr' 10 = .int .i64 s261)
       (fun Q289 hN290=>?_) ?_
     ·simp only [s5,t4]
      simp only [qc (g:=48),B0,reduceIte,a8]
      refine zf (t:=v36.2) (fun hg291=>?_) (fun hg291=>?_)
      ·simp only [hg291,qc (g:=48),zu,f287,qg,f281,qx,qb,qch,qw,zo,qa,qm,B0,reduceIte,a8]
       exact hN290 _ _ ⟨(t8 (t8 (t8 (t8 (t8 (t8 hS279)))))),by rw [qat hg291]; simp only [B0,reduceIte,a8],f280,f281,f282,f283,
         f284,by simp only [f285,B0,reduceIte,a8,hg291],f286,f287⟩
      ·simp only [hg291,qc (g:=48),kj,qw,qb,zn,qa,qm,B0,reduceIte,a8]
       exact hN290 _ _ ⟨(t8 (t8 (t8 (t8 (t8 (t8 hS279)))))),by rw [qao hg291]; simp only [B0,reduceIte,a8],f280,f281,f282,f283,
         f284,by simp only [f285,B0,reduceIte,a8,hg291],f286,f287⟩
     rintro fr292 h302 ⟨hS303,f293,f294,f295,f296,f297,f298,f299,f300,f301⟩
     simp only [s6,t3]
     simp only [f293,qg,B0,reduceIte,a8]
     obtain ⟨v307,hx308,hF309⟩:=qk hF269
     refine jf 9 (fun fr' h'=>Sep h' lo ([Blk1 pb0 [lst cU8 v252.2.code,.int .i64 v252.2.at_,.int .u64 v252.2.seed] 78]++(c77++([Blk1 b52 [v83,
       v87] 29]++([Blk1 b128 [.int .i64 s262.Kind,.int .i64 s262.K,.int .i64 s262.To,
       .int .i64 s262.N] 57]++(c84++(c88 ++
       (S0)))))))∧fr' 62 = .bool v307∧fr' 0 = .ptr pb0 0∧fr' 1 = .int .i64 a9∧fr' 5=v76∧fr' 6 = .int .i64 s79∧fr' 7 = .ptr b52 0∧fr' 8 = .bool v36.2∧fr' 9 = .ptr b128 0∧fr' 10 = .int .i64 s261)
       (fun Q304 hN305=>?_) ?_
     ·simp only [s5,t4]
      simp only [qc (g:=53),B0,reduceIte,a8]
      refine zf (t:=(v36.2&&(decide (s261<a9)))) (fun hg306=>?_) (fun hg306=>?_)
      ·rw [iteT hg306] at hx308
       simp only [hg306,qc (g:=53),zu,f298,qo,qb,o7,o8,o9,qv,ql,B0,reduceIte,a8]
       refine qd (v:=v83) ((ja (a0g _ _ _ (s9 hS303))).trans rfl) ?_
       simp only [hg306,qc (g:=53),zu,f300,qo,qb,o7,o8,o9,qv,ql,B0,reduceIte,a8]
       refine qd (v := .int .i64 s262.K) ((ja (a0g _ _ _ (t5 hS303))).trans rfl) ?_
       obtain ⟨x310,hx311,hF312⟩:=qk hx308
       simp only [hg306,qc (g:=53),zu,jj,B0,reduceIte,a8]
       obtain ⟨b313,hb314⟩:=a24 hv85 (j7 hx311)
       refine qd (SlN.ia hv85 hb314 hx311) ?_
       obtain ⟨c315,cs316,os317,hv318,hR319,hS320⟩:=a2d (a2f hv85 hb314 Peer.RO.len) hx311 zt Peer.RO.len (a0j hS303)
       obtain ⟨v322,c323,v326,c327,hv324,hv328,rfl,rfl⟩:=hR319
       have hS321:=a2j hS320
       simp only [hg306,qc (g:=53),zu,qo,qb,o7,o8,o9,qv,ql,B0,reduceIte,a8]
       refine qd (v := .bool x310.Leads) ((a15 (o:=1) hv318 rfl hx311 hS321 (nle rfl)).trans rfl) ?_
       simp only [hg306,qc (g:=53),zu,jq,qb,kq,qw,zo,qa,qm,B0,reduceIte,a8]
       have e330:=qj hF312
       exact hN305 _ _ ⟨(t8 (t8 (t8 (t8 (t8 (t8 hS303)))))),by rw [←e330]; simp only [B0,reduceIte,a8],f294,f295,f296,f297,f298,
         f299,f300,f301⟩
      ·rw [iteF hg306] at hx308
       simp only [hg306,qc (g:=53),kj,qw,qb,zn,qa,qm,B0,reduceIte,a8]
       have e331:=qj hx308
       exact hN305 _ _ ⟨(t8 (t8 (t8 (t8 (t8 (t8 hS303)))))),by rw [←e331]; simp only [B0,reduceIte,a8],f294,f295,f296,f297,f298,
         f299,f300,f301⟩
     rintro fr332 h342 ⟨hS343,f333,f334,f335,f336,f337,f338,f339,f340,f341⟩
     simp only [s6,t3]
     simp only [qa,f333,q8,B0,reduceIte,a8]
     refine q9 (t:=v307) (fun hc344=>?_) (fun hc344=>?_)
     ·rw [iteT hc344] at hF309
      simp only [zd,qwk,qf,wx,qup,qe,f340,qo,qb,o7,o8,o9,qv,ql,B0,reduceIte,
        a8]
      refine qd (v := .int .i64 s262.K) ((ja (a0g _ _ _ (t5 hS343))).trans rfl) ?_
      obtain ⟨hp345,hF346⟩:=qa2 hF309
      simp only [qx,qb,ur,f335,qg,qni (n:=a9) hp345,f340,qo,o7,o8,o9,qv,zh,B0,reduceIte,
        a8]
      refine qy (us:=[.int .i64 (Int.tmod (r8 .i64 (s262.K+1)) a9)]) rfl (cs':=[.int .i64 s262.Kind,
        .int .i64 (Int.tmod (r8 .i64 (s262.K+1)) a9),.int .i64 s262.To,.int .i64 s262.N]) (t5 hS343) hW rfl rfl (nle rfl) rfl (fun h347 hS348=>?_)
      simp only [qa,w6,qe,f341,qg,qx,qb,ur,qm,B0,reduceIte,a8]
      have e349:=qj hF346
      exact hN272 _ _ _ e349.symm ⟨f334,f335,f336,f337,f338,f339,f340,rfl,(t8 (t8 (t8 (s9 (t8 (t8 hS348))))))⟩
     rw [iteF hc344] at hF309
     simp only [qfv,qe0,qgc,B0,reduceIte,a8]
     have e350:=qj hF309
     exact hK273 _ _ _ e350.symm ⟨f334,f335,f336,f337,f338,f339,f340,f341,(t8 (t8 (t8 (t8 (t8 (t8 hS343))))))⟩
    rintro ⟨s352,s353⟩ fr354 h355 rfl ⟨f357,f358,f359,f360,f361,f362,f363,f364,hS356⟩
    dsimp only [jnO] at hk268
    dsimp only at *
    unfold qb4 at hk268
    obtain ⟨v365,hx366,hF367⟩:=qk hk268
    simp only [qwz,qf,qe,f357,qg,zi,B0,reduceIte,a8]
    refine yx rfl (yl hW pb0 v252.2 6 v365 hx366 hS356) ?_
    rintro _ h368 ⟨rfl,hS369⟩
    simp only [f363,qo,qb,o7,o8,o9,qv,zh,B0,reduceIte,a8]
    refine qy (us:=[.int .i64 v365.1]) rfl (cs':=[.int .i64 s353.Kind,.int .i64 s353.K,.int .i64 s353.To,
      .int .i64 v365.1]) (t5 hS369) hW rfl rfl (nle rfl) rfl (fun h370 hS371=>?_)
    simp only [qa,qzd,qf,qe,f362,qg,B0,reduceIte,a8]
    refine jf 4 (fun fr' h'=>Sep h' lo ([Blk1 pb0 [lst cU8 v365.2.code,.int .i64 v365.2.at_,.int .u64 v365.2.seed] 78]++(c77++([Blk1 b52 [v83,
      v87] 29]++([Blk1 b128 [.int .i64 s353.Kind,.int .i64 s353.K,.int .i64 s353.To,
      .int .i64 v365.1] 57]++(c84++(c88++(S0)))))))∧fr' 79 = .bool (v36.2&&(decide
      (s353.Kind=3)))∧fr' 0 = .ptr pb0 0∧fr' 1 = .int .i64 a9∧fr' 5=v76∧fr' 6 = .int .i64 s79∧fr' 7 = .ptr b52 0∧fr' 8 = .bool v36.2∧fr' 9 = .ptr b128 0)
      (fun Q372 hN373=>?_) ?_
    ·simp only [s5,t4]
     simp only [qc (g:=75),B0,reduceIte,a8]
     refine zf (t:=v36.2) (fun hg374=>?_) (fun hg374=>?_)
     ·simp only [hg374,qc (g:=75),zu,f363,qo,qb,o7,o8,o9,qv,ql,B0,reduceIte,a8]
      refine qd (v := .int .i64 s353.Kind) ((ja (a0g _ _ _ hS371)).trans rfl) ?_
      simp only [hg374,qc (g:=75),zu,qx,qb,ku,qw,zo,qa,qm,B0,reduceIte,a8]
      exact hN373 _ _ ⟨(t8 (t8 (t8 (s9 (t8 (t8 hS371)))))),by rw [qat hg374]; simp only [B0,reduceIte,a8],f357,f358,f359,f360,
        f361,by simp only [f362,B0,reduceIte,a8,hg374],f363⟩
     ·simp only [hg374,qc (g:=75),kj,qw,qb,zn,qa,qm,B0,reduceIte,a8]
      exact hN373 _ _ ⟨(t8 (t8 (t8 (s9 (t8 (t8 hS371)))))),by rw [qao hg374]; simp only [B0,reduceIte,a8],f357,f358,f359,f360,
        f361,by simp only [f362,B0,reduceIte,a8,hg374],f363⟩
    rintro fr375 h384 ⟨hS385,f376,f377,f378,f379,f380,f381,f382,f383⟩
    simp only [s6,t3]
    simp only [qa,qtu,f376,q8,B0,reduceIte,a8]
    refine q9 (t:=(v36.2&&(decide (s353.Kind=3)))) (fun hc386=>?_) (fun hc386=>?_)
    ·rw [iteT hc386] at hF367
     obtain ⟨v387,hx388,hF389⟩:=qk hF367
     simp only [qy8,qf,qe,f377,qg,f378,zi,B0,reduceIte,a8]
     refine yx rfl (yl hW pb0 v365.2 a9 v387 hx388 hS385) ?_
     rintro _ h390 ⟨rfl,hS391⟩
     simp only [f383,qo,qb,o7,o8,o9,qv,zh,B0,reduceIte,a8]
     refine qy (us:=[.int .i64 v387.1]) rfl (cs':=[.int .i64 s353.Kind,.int .i64 s353.K,.int .i64 v387.1,
       .int .i64 v365.1]) (t5 hS391) hW rfl rfl (nle rfl) rfl (fun h392 hS393=>?_)
     simp only [qa,qxr,qe,f377,qg,f381,qo,qb,o7,o8,o9,qv,ql,B0,reduceIte,a8]
     refine qd (v:=v83) ((ja (a0g _ _ _ (t5 hS393))).trans rfl) ?_
     simp only [f383,qo,qb,o7,o8,o9,qv,ql,B0,reduceIte,a8]
     refine qd (v := .int .i64 s353.K) ((ja (a0g _ _ _ hS393)).trans rfl) ?_
     obtain ⟨x394,hx395,hF396⟩:=qk hF389
     simp only [jj,B0,reduceIte,a8]
     obtain ⟨b397,hb398⟩:=a24 hv85 (j7 hx395)
     refine qd (SlN.ia hv85 hb398 hx395) ?_
     obtain ⟨c399,cs400,os401,hv402,hR403,hS404⟩:=a2d (a2f hv85 hb398 Peer.RO.len) hx395 zt Peer.RO.len (a0j hS393)
     obtain ⟨v406,c407,v410,c411,hv408,hv412,rfl,rfl⟩:=hR403
     have hS405:=a2j hS404
     simp only [qo,qb,o7,o8,o9,qv,ql,B0,reduceIte,a8]
     refine qd (v:=v406) ((a15 (o:=2) hv402 rfl hx395 hS405 (nle rfl)).trans rfl) ?_
     obtain ⟨v414,hx415,hF416⟩:=qk hF396
     simp only [zq,qb,a1p hv408,qx,ur,zi,B0,reduceIte,a8]
     refine yx rfl (yl hW pb0 v387.2 (r8 .i64 ((p9 x394.Log:Int)+1)) v414 hx415 (a0j hS405)) ?_
     rintro _ h417 ⟨rfl,hS418⟩
     simp only [f383,qo,qb,o7,o8,o9,qv,zh,B0,reduceIte,a8]
     refine qy (us:=[.int .i64 v414.1]) rfl (cs':=[.int .i64 s353.Kind,.int .i64 s353.K,.int .i64 v387.1,
       .int .i64 v414.1]) (a0j hS418) hW rfl rfl (nle rfl) rfl (fun h419 hS420=>?_)
     simp only [qa,qm,B0,reduceIte,a8]
     obtain ⟨c421,hv422,hS423⟩:=a1h (c:=c399) (os:=c407++(c411)) hv402 rfl hx395 zt (Peer.RI (x:=x394) hv408 hv412) (a1f (c1:=c407) (c2:=c411)
       (a0j (a0j (a0j hS420))))
     have hv424:=a1e hv422
     have e425:=qj hF416
     subst e425
     exact hN196 _ _ ⟨c421,f377,f378,f379,f380,f381,f382,f383,hv424,(t8 (t8 (t8 (s9 (t6 (t8 hS423))))))⟩
    rw [iteF hc386] at hF367
    simp only [zd,qm,B0,reduceIte,a8]
    have e426:=qj hF367
    subst e426
    exact hN196 _ _ ⟨c84,f377,f378,f379,f380,f381,f382,f383,hv85,(t8 (t8 (t8 (t8 (t8 (t8 hS385))))))⟩
   rintro fr429 h430 ⟨c189,f432,f433,f434,f435,f436,f437,f438,hv190,hS431⟩
   obtain ⟨s186,s187,s188⟩:=sv194
   dsimp only at *
   unfold qab at hk193
   simp only [w6,qum,qf,qe,f437,qg,qa,qyz,q8,B0,reduceIte,a8]
   obtain ⟨s439,hX449,hk450⟩:=qk hk193
   refine wj (t:=v36.2) (fun fr' h'=>∃ v441 c442 v445 c446,
     fr' 0 = .ptr pb0 0∧fr' 1 = .int .i64 a9∧fr' 5=v76∧fr' 6 = .int .i64 s79∧fr' 7 = .ptr b52 0∧fr' 8 = .bool v36.2∧fr' 9 = .ptr b128 0∧SlN Peer.R 5 43 v441 s439.Peers c442∧SlA Mail.R 9 86 v445 s439.Mail c446∧Sep h' lo
     ([Blk1 pb0 [lst cU8 s186.code,.int .i64 s186.at_,.int .u64 s186.seed] 78]++(c77++([Blk1 b52 [v441,v445] 29]++([Blk1 b128 [.int .i64 s187.Kind,.int .i64 s187.K,
     .int .i64 s187.To,.int .i64 s187.N] 57]++(c442++(c446++(S0)))))))) (fun Q451 hN452 hR453 hE454=>⟨fun hc455=>?_,fun hc455=>?_⟩) ?_
   ·rw [iteT hc455] at hX449
    simp only [qtf,qf,jg,qx2,B0,reduceIte,a8]
    refine qji hS431 (fun b456 h457 hS458=>?_)
    simp only [f436,zj,B0,reduceIte,a8]
    refine qq (v := .agg [v83,v87]) ((zw (a0g _ _ _ (t5 hS458))).trans rfl) ?_
    obtain ⟨v460,hx461,hF462⟩:=qk hX449
    simp only [qgj,B0,reduceIte,a8]
    refine qx0 rfl hS458 (qt (wk (qt (SlN.snap hv190 _ (t8 hS458) rfl Peer.RO) (qt (SlA.snap hv89 _ (a20 hS458) rfl Mail.RO) zm))) zm)
      (qg2 (fun b hb=>decide_eq_true hb) (Raft.mk s188 s81.Mail) v460 hx461) ?_
    rintro _ h471 ⟨v463,c464,v467,c468,rfl,hv465,hv469,hS472⟩
    refine ⟨_,qjx (qp (a2v hv465) (qp (a2v hv469) zp)),hS472,(wu (SlN.pf hv465 Peer.RO) (wu (SlN.pf hv469 Mail.RO) qda)),
      fun h473 hS474=>?_⟩
    have hS475:Sep h473 lo (c464++(c468++([Blk1 b456 [.nil,.nil] 29]++([Blk1 pb0 [lst cU8 s186.code,.int .i64 s186.at_,
      .int .u64 s186.seed] 78]++(c77++([Blk1 b52 [v83,v87] 29]++([Blk1 b128 [.int .i64 s187.Kind,.int .i64 s187.K,.int .i64 s187.To,
      .int .i64 s187.N] 57]++(c189++(c88++(S0)))))))))):=by simpa only [t7,a08] using hS474
    simp only [f438,qh6,B0,reduceIte,a8]
    refine qmp (Sep.ltk (t5 hS431)) ?_
    refine qq (v := .agg [.int .i64 s187.Kind,.int .i64 s187.K,.int .i64 s187.To,.int .i64 s187.N]) ((zw (a0g _ _ _ (a20 hS475))).trans rfl) ?_
    obtain ⟨v476,hx477,hF478⟩:=qk hF462
    simp only [xa,B0,reduceIte,a8]
    refine qxc rfl (qio hW k v460 v463 c464 hv465 v467 c468 hv469 s187 v476 hx477 (t6 (t6 hS475))) ?_
    rintro _ h485 ⟨c479,v481,c482,rfl,hv480,hv483,hS486⟩
    simp only [zz,qi,qvg,qa9,q0k,qbd,xx,B0,reduceIte,a8]
    refine ua (us:=[v463,v481]) rfl (cs':=[v463,
      v481]) (s9 hS486) hW rfl (qp (a0n hv480) (qp (SlA.one hv483) zp)) (nle rfl) rfl (fun h487 hS488=>?_)
    simp only [zz,qi,za,B0,reduceIte,a8]
    refine jc hS488 hW (by simp only [B0,reduceIte,a8]) (fun h489 hS490=>?_)
    simp only [z5,qw0,qf,qe,qg,qa,qu1,q8,B0,reduceIte,a8]
    refine q9 (t:=v476.2) (fun hc491=>?_) (fun hc491=>?_)
    ·rw [iteT hc491] at hF478
     simp only [qe,ql,B0,reduceIte,a8]
     refine qd (v := .agg [v463,v481]) rfl ?_
     simp only [f436,zh,B0,reduceIte,a8]
     refine qy (us:=[v463,v481]) rfl (cs':=[v463,
       v481]) (a0j hS490) hW rfl (qp (a0n hv480) (qp (SlA.one hv483) zp)) (nle rfl) rfl (fun h492 hS493=>?_)
     simp only [qa,qm,B0,reduceIte,a8]
     have e494:=qj hF478
     subst e494
     exact hN452 _ _ ⟨v463,c479,v481,c482,f432,f433,f434,f435,f436,f437,f438,hv480,hv483,
       (t8 (t8 (t5 (t8 (s9 (s9 (a0k (a20 (a0k (a20 hS493))))))))))⟩
    rw [iteF hc491] at hF478
    simp only [zd,qm,B0,reduceIte,a8]
    have e495:=qj hF478
    subst e495
    exact hN452 _ _ ⟨v83,c189,v87,c88,f432,f433,f434,f435,f436,f437,f438,hv190,hv89,
      (t8 (t8 (t8 (t8 (t8 (t8 (a0k ((a0k (hS490))))))))))⟩
   ·rw [iteF hc455] at hX449
    simp only [zd,qm,B0,reduceIte,a8]
    have e496:=qj hX449
    subst e496
    exact hN452 _ _ ⟨v83,c189,v87,c88,f432,f433,f434,f435,f436,f437,f438,hv190,hv89,(t8 (t8 (t8 (t8 (t8 (t8 hS431))))))⟩
   rintro fr497 h498 ⟨v441,c442,v445,c446,f500,f501,f502,f503,f504,f505,f506,hv443,hv447,hS499⟩
   unfold qby at hk450
   simp only [qvf,qe,f502,qg,f506,ql,B0,reduceIte,a8]
   refine qd (v := .agg [.int .i64 s187.Kind,.int .i64 s187.K,.int .i64 s187.To,.int .i64 s187.N]) ((zw (a0g _ _ _ (t5 hS499))).trans rfl) ?_
   simp only [jy,evp,B0,reduceIte,a8]
   refine kg (n:=4) (f:=jm) [s187] hS499 rfl rfl (fun v507 c508 h509 hv510 hS511=>?_)
   simp only [yv,B0,reduceIte,a8]
   obtain ⟨l513,hx514,hF515⟩:=qk hk450
   refine wh (f:=jm) hv78 (s9 hS511) hW (fun _=>rfl) (fun _=>rfl) (SlF.first hv510 hS511 (fun _=>rfl)) hx514
     (fun v516 c517 h518 hv519 hS520=>?_)
   simp only [qg,qa,w6,qe,f503,qx,qb,qbp,qm,B0,reduceIte,a8]
   have e522:=qj hF515
   exact hN99 _ _ _ e522.symm ⟨v516,c517,v441,c442,v445,c446,f500,f501,rfl,rfl,f504,f505,hv519,hv443,hv447,
     (a0j (t5 (a0j (a0j (a0j (a0k (t5 (a0k (t6 hS520)))))))))⟩
  rw [iteF hc114] at hF96
  simp only [qfv,qe0,qgc,B0,reduceIte,a8]
  have e527:=qj hF96
  exact hK100 _ _ _ e527.symm ⟨v76,c77,v83,c84,v87,c88,f107,f108,f109,f110,f111,f112,hv78,hv85,hv89,(a0j (a0j (a0j (a0j (a0j hS106)))))⟩
 rintro ⟨s529,s534,s535,s536⟩ fr545 h546 rfl ⟨v531,c532,v538,c539,v542,c543,f548,f549,f550,f551,f552,f553,hv533,hv540,hv544,hS547⟩
 dsimp only [jnO] at hk95
 dsimp only at *
 unfold qbs at hk95
 simp only [qsm,qf,qe,f550,qg,zq,qb,a1p hv533,qx,ww,B0,reduceIte,a8]
 obtain ⟨sv559,hX557,hk558⟩:=qk hk95
 refine jf 3 (fun fr' h'=>fr' 0 = .ptr pb0 0∧fr' 5=v531∧fr' 140 = .bool sv559.1∧Sep h' lo ([Blk1 pb0 [lst cU8 sv559.2.code,.int .i64 sv559.2.at_,
   .int .u64 sv559.2.seed] 78]++(c532++(S0)))) (fun Q560 hN561=>?_) ?_
 ·simp only [s5,t4]
  simp only [qc (g:=137),B0,reduceIte,a8]
  refine zf (t:=(decide ((0:Int)<(p9 s529:Int)))) (fun hg564=>?_) (fun hg564=>?_)
  ·rw [iteT hg564] at hX557
   obtain ⟨v565,hx566,hF567⟩:=qk hX557
   simp only [hg564,qc (g:=137),zu,f548,qg,zi,B0,reduceIte,a8]
   refine yx rfl (qjd hW pb0 s535 12 v565 hx566 hS547) ?_
   rintro _ h568 ⟨rfl,hS569⟩
   simp only [hg564,qw,qb,zo,qa,qm,B0,reduceIte,a8]
   have e570:=qj hF567
   subst e570
   exact hN561 _ _ ⟨f548,f550,rfl,(t6 (t6 (a0k (s9 (a0k (s9 (a0k (s9 hS569))))))))⟩
  ·rw [iteF hg564] at hX557
   simp only [hg564,qc (g:=137),kj,qw,qb,zn,qa,qm,B0,reduceIte,a8]
   have e571:=qj hX557
   subst e571
   exact hN561 _ _ ⟨f548,f550,rfl,(t6 (t6 (a0k (s9 (a0k (s9 (a0k (s9 hS547))))))))⟩
 rintro fr572 h573 ⟨f575,f576,f577,hS574⟩
 obtain ⟨s554,s555⟩:=sv559
 dsimp only at *
 unfold qb9 at hk558
 simp only [s6,t3]
 simp only [qa,qu9,f577,q8,B0,reduceIte,a8]
 refine q9 (t:=s554) (fun hc578=>?_) (fun hc578=>?_)
 ·rw [iteT hc578] at hk558
  obtain ⟨v579,hx580,hF581⟩:=qk hk558
  simp only [qti,qe,f576,qg,f575,zq,qb,a1p hv533,zi,B0,reduceIte,a8]
  refine yx rfl (yl hW pb0 s555 (p9 s529:Int) v579 hx580 hS574) ?_
  rintro _ h582 ⟨rfl,hS583⟩
  obtain ⟨v584,hx585,hF586⟩:=qk hF581
  simp only [f575,qg,zi,B0,reduceIte,a8]
  refine yx rfl (yl hW pb0 v579.2 9 v584 hx585 hS583) ?_
  rintro _ h587 ⟨rfl,hS588⟩
  obtain ⟨v589,hx590,hF591⟩:=qk hF586
  simp only [f575,qg,zi,B0,reduceIte,a8]
  refine yx rfl (yl hW pb0 v584.2 7 v589 hx590 hS588) ?_
  rintro _ h592 ⟨rfl,hS593⟩
  obtain ⟨v594,hx595,hF596⟩:=qk hF591
  simp only [qx,qb,qbp,f575,qg,zi,B0,reduceIte,a8]
  refine yx rfl (yl hW pb0 v589.2 3 v594 hx595 hS593) ?_
  rintro _ h597 ⟨rfl,hS598⟩
  obtain ⟨v599,hx600,hF601⟩:=qk hF596
  simp only [f575,qg,zi,B0,reduceIte,a8]
  refine yx rfl (yl hW pb0 v594.2 40 v599 hx600 hS598) ?_
  rintro _ h602 ⟨rfl,hS603⟩
  simp only [qx,qb,qbp,run_build,evp,B0,reduceIte,a8]
  refine qd (v := .agg [.int .i64 v584.1,.int .i64 (r8 .i64 (v589.1 - 1)),.int .i64 v594.1,.int .i64 (r8 .i64 (v599.1 - 2))]) rfl ?_
  obtain ⟨x604,hx605,hF606⟩:=qk hF601
  simp only [jj,B0,reduceIte,a8]
  obtain ⟨b607,hb608⟩:=SlF.isrow hv533 (j7 hx605)
  refine qd (SlF.ia hv533 hb608 hx605) ?_
  simp only [zh,B0,reduceIte,a8]
  refine qje (f:=jm) (x':=(RaftStep.mk v584.1 (r8 .i64 (v589.1 - 1)) v594.1 (r8 .i64 (v599.1 - 2)))) (o:=0) hv533
    (t6 hS603) hW hb608 hx605 (fun _=>rfl) rfl rfl (nle rfl) rfl (fun c611 h609 hv612 hS610=>?_)
  have hx613:=kt (x':=(RaftStep.mk v584.1 (r8 .i64 (v589.1 - 1)) v594.1 (r8 .i64 (v599.1 - 2)))) hx605
  simp only [qa,qf,qe,f576,qg,zc,B0,reduceIte,a8]
  have he:=qj hF606
  subst he
  simp only [zr,B0,reduceIte,a8]
  exact ⟨v531,c611,by first | trivial | rfl,hv612,(t6 (t6 hS610))⟩
 rw [iteF hc578] at hk558
 simp only [zd,qf,qe,f576,qg,qa,zc,B0,reduceIte,a8]
 have he:=qj hk558
 subst he
 simp only [zr,B0,reduceIte,a8]
 exact ⟨v531,c532,by first | trivial | rfl,hv533,(t6 hS574)⟩
theorem qjt {W:Nat→Bool}{h:Heap} (hW:∀ b,
  (geL h.length) b→W b=true) (k:Nat) (m8:List Int) (r:Int × (List RaftStep)) (hF:qah k m8=some r) : Ret E W 6 [lst cU8 m8] h
  (fun v h'=>∃ rv1 rc1,v = .tup [.int .i64 r.1,rv1]∧SlF jm 4 57 rv1 r.2 rc1∧Sep h' (geL h.length) (rc1++([]))):=by
 refine Ret.of (fn:=x6) rfl (Run.of ?_)
 unfold qah at hF
 have zf0:zk [lst cU8 m8] 0=lst cU8 m8:=rfl
 generalize zk [lst cU8 m8]=fr0 at zf0 ⊢
 have hS:Sep h (geL h.length) []:=a14 h
 simp only [x6,qf,qe,qg,qa,zcp,zf0,run_build,evp,B0,reduceIte,a8]
 refine qd (v := .agg [lst cU8 m8,.int .i64 0,.int .u64 0]) rfl ?_
 simp only [ym,B0,reduceIte,a8]
 refine ko (cs:=[lst cU8 m8,.int .i64 0,.int .u64 0]) hS rfl rfl rfl (fun b1 h2 hS3=>?_)
 obtain ⟨v5,hx6,hF7⟩:=qk hF
 simp only [qg,qa,zca,qf,qe,zi,B0,reduceIte,a8]
 refine yx rfl (yl hW b1 (L1Cur.mk m8 0 0) 5 v5 hx6 hS3) ?_
 rintro _ h8 ⟨rfl,hS9⟩
 obtain ⟨v10,hx11,hF12⟩:=qk hF7
 simp only [qx,qb,ur,qg,qa,zbx,qf,qe,zi,B0,reduceIte,a8]
 refine yx rfl (qle hW k b1 v5.2 (r8 .i64 ((1:Int)+v5.1)) v10 hx11 hS9) ?_
 rintro v13 h17 ⟨_,c14,rfl,hv15,hS18⟩
 simp only [qg,qa,zc,B0,reduceIte,a8]
 have he:=qj hF12
 subst he
 simp only [qes,B0,reduceIte,a8]
 exact ⟨v13,c14,by first | trivial | rfl,hv15,(a0k (t6 hS18))⟩
theorem ya {W:Nat→Bool}{h:Heap} (hW:∀ b,
  (geL h.length) b→W b=true) (n9:Int) (low_1:Int) (high_2:Int) (r:Bool) (hF:some (zg n9 low_1 high_2)=some r) : Ret E W 44 [.int .i64 n9,
  .int .i64 low_1,.int .i64 high_2] h (fun v h'=>cut h.length h' E.sz false 9 v=some (.bool r)):=by
 refine Ret.of (fn:=x44) rfl (Run.of ?_)
 unfold zg at hF
 have zf0:zk [.int .i64 n9,.int .i64 low_1,.int .i64 high_2] 0 = .int .i64 n9:=rfl
 have zf1:zk [.int .i64 n9,.int .i64 low_1,.int .i64 high_2] 1 = .int .i64 low_1:=rfl
 have zf2:zk [.int .i64 n9,.int .i64 low_1,.int .i64 high_2] 2 = .int .i64 high_2:=rfl
 generalize zk [.int .i64 n9,.int .i64 low_1,.int .i64 high_2]=fr0 at zf0 zf1 zf2 ⊢
 have hS:Sep h (geL h.length) []:=a14 h
 simp only [x44,qf,qe,qg,qa,q5z,zf0,zf1,qx,qb,qga,B0,reduceIte,a8]
 refine jf 4 (fun fr' h'=>Sep h' (geL h.length) ([])∧fr' 14 = .bool ((decide (low_1≤n9))&&(decide (n9≤high_2)))) (fun Q1 hN2=>?_) ?_
 ·simp only [s5,t4]
  simp only [qc (g:=10),B0,reduceIte,a8]
  refine zf (t:=(decide (low_1≤n9))) (fun hg3=>?_) (fun hg3=>?_)
  ·simp only [hg3,qc (g:=10),zu,zf0,qg,zf2,qx,qb,qhn,qw,zo,qa,qm,B0,reduceIte,a8]
   exact hN2 _ _ ⟨hS,by rw [qat hg3]; simp only [B0,reduceIte,a8]⟩
  ·simp only [hg3,qc (g:=10),kj,qw,qb,zn,qa,qm,B0,reduceIte,a8]
   exact hN2 _ _ ⟨hS,by rw [qao hg3]; simp only [B0,reduceIte,a8]⟩
 rintro fr4 h6 ⟨hS7,f5⟩
 simp only [s6,t3]
 simp only [f5,qg,qa,zc,B0,reduceIte,a8]
 have he:=qj hF
 subst he
 simp only [zr,B0,reduceIte,a8]
 exact rfl
theorem qmo {W:Nat→Bool}{h:Heap} (hW:∀ b,
  (geL h.length) b→W b=true) (peers_0:Int) (r:Raft) (hF:qfo peers_0=some r) : Ret E W 45 [.int .i64 peers_0] h (fun v h'=>∃ l9 g9 i5 i0,
  v = .agg [l9,i5]∧SlN Peer.R 5 43 l9 r.Peers g9∧SlN Mail.R 9 86 i5 r.Mail i0∧Sep h' (geL h.length) (g9++(i0++([])))):=by
 refine Ret.of (fn:=x45) rfl (Run.of ?_)
 unfold qfo at hF
 have zf0:zk [.int .i64 peers_0] 0 = .int .i64 peers_0:=rfl
 generalize zk [.int .i64 peers_0]=fr0 at zf0 ⊢
 have hS:Sep h (geL h.length) []:=a14 h
 simp only [x45,qf,qe,ji,B0,reduceIte,a8]
 refine z6 hS (fun b1 h2 hS3=>?_)
 simp only [qa,q9c,qf,qe,run_build,evp,B0,reduceIte,a8]
 refine qd (v := .agg [.nil,.nil]) rfl ?_
 simp only [ji,B0,reduceIte,a8]
 refine z6 hS3 (fun b5 h6 hS7=>?_)
 simp only [zh,B0,reduceIte,a8]
 refine qy (us:=[.nil,.nil]) rfl (cs':=[.nil,.nil]) hS7 hW rfl rfl (nle rfl) rfl (fun h9 hS10=>?_)
 simp only [qa,q8k,qf,qe,zf0,qg,B0,reduceIte,a8]
 obtain ⟨oc23,hX25,hk26⟩:=kd hF
 simp only [q7n]
 refine qas (σ:=Raft) (fun i21 s71=>qfg peers_0 i21 s71) (fun s fr' h'=>∃ v18 c19,
   fr' 0 = .int .i64 peers_0∧fr' 2 = .ptr b1 0∧fr' 3 = .ptr b5 0∧SlN Peer.R 5 43 v18 s.Peers c19∧Sep h' (geL h.length) ([Blk1 b1 [.nil,.nil] 29]++([Blk1 b5 [v18,
   .nil] 29]++(c19++([]))))) hX25 ⟨.nil,[],zf0,rfl,rfl,a2u,((t6 hS10) : Sep _ (geL h.length) ([Blk1 b1 [.nil,.nil] 29]++([Blk1 b5 [.nil,
   .nil] 29]++([]))))⟩ (by simp only [B0,reduceIte,a8]) (by simp only [B0,reduceIte,
   a8]) (fun _ _ _ h=>h) rfl rfl (fun _ _ _ _ h=>h) (fun _ _ _ _ h=>h) (fun _ _ _ _ h=>h) (by decide) ?_ ?_
 ·rintro i21 s16 fr35 h36 hx41 ⟨v18,c19,f38,f39,f40,hv20,hS37⟩ f42 f43 oc24 hF27 hr28 Q29 hN30 hB34 hK31 hR32 hE33
  unfold qfg at hF27
  simp only [q74,jg,f40,zl,qi,o7,o8,o9,qv,zj,B0,reduceIte,a8]
  refine qq (v:=v18) ((ja (a0g _ _ _ (t6 hS37))).trans rfl) ?_
  obtain ⟨l44,hx45,hF46⟩:=qk hF27
  simp only [f38,zz,qi,qor,B0,reduceIte,a8]
  refine qjp (f:=cI) (z:=(0:Int)) hS37 hx45 rfl (fun v47 c48 h49 hv50 hS51=>?_)
  simp only [qfw,evp,B0,reduceIte,a8]
  refine qq (v := .agg [.int .i64 0,.bool false,.nil,.int .i64 0,v47]) (qkt (qel (us:=[v47]) (vs:=[.int .i64 0,.bool false,.nil,.int .i64 0,
    v47]) (jp (a01 hv50)) rfl (nle rfl) (qp (a01 hv50) zp) rfl qek)) ?_
  simp only [qa6,evp,B0,reduceIte,a8]
  refine qem (R:=Peer.R) (n:=5) (cs:=[.int .i64 0,.bool false,.nil,.int .i64 0,
    v47]) (os:=[]++(c48)) (Sep.bi2 (c1:=[]) (c2:=c48) (S:=([Blk1 b1 [.nil,.nil] 29]++([Blk1 b5 [v18,
    .nil] 29]++(c19++([]))))) (hS51:Sep _ (geL h.length) (c48++([Blk1 b1 [.nil,.nil] 29]++([Blk1 b5 [v18,
    .nil] 29]++(c19++([]))))))) (qel (us:=[.int .i64 0,.bool false,.nil,.int .i64 0,v47]) (vs:=[.int .i64 0,.bool false,.nil,.int .i64 0,
    v47]) rfl rfl (nle rfl) (qp rfl (qp rfl (qp rfl (qp rfl (qp (a01 hv50) zp))))) rfl qek) (Peer.RI (x :=
    (Peer.mk 0 false [] 0 l44)) SlF.nil hv50) rfl (fun v53 c54 h55 hv56 hS57=>?_)
  simp only [qgp,B0,reduceIte,a8]
  obtain ⟨l59,hx60,hF61⟩:=qk hF46
  refine qg8 (R:=Peer.R) (c:=c19) hv20 hv56 (t5 hS57) hW Peer.RO.len Peer.RO.one hx60 (fun v62 c63 h64 hv65 hS66=>?_)
  simp only [f40,zl,qi,o7,o8,o9,qv,xx,B0,reduceIte,a8]
  refine ua (us:=[v62]) (jp (a0n hv65)) (cs':=[v62,.nil]) (s9 hS66) hW rfl (qp (a0n hv65) zp) (nle rfl) rfl (fun h68 hS69=>?_)
  simp only [za,qm,B0,reduceIte,a8]
  have e70:=qj hF61
  exact hN30 _ _ _ e70.symm ⟨v62,c63,f38,f39,f40,hv65,(s9 (t6 (t6 hS69)))⟩ (f42) (f43)
 rintro s72 fr77 h78 rfl ⟨v74,c75,f80,f81,f82,hv76,hS79⟩
 dsimp only [jnO] at hk26
 unfold qh8 at hk26
 simp only [qf,qe,f82,ql,B0,reduceIte,a8]
 refine qd (v := .agg [v74,.nil]) ((zw (a0g _ _ _ (t6 hS79))).trans rfl) ?_
 simp only [f81,zh,B0,reduceIte,a8]
 refine qy (us:=[v74,.nil]) rfl (cs':=[v74,.nil]) hS79 hW rfl (qp (a0n hv76) (qp rfl zp)) (nle rfl) rfl (fun h83 hS84=>?_)
 simp only [qa,zc,B0,reduceIte,a8]
 have he:=qj hk26
 subst he
 refine wa (bb:=b1) (oo:=0) (v := .agg [v74,.nil]) (by simp only [f81,B0,reduceIte,a8]) ((zw (a0g _ _ _ hS84)).trans rfl) ?_
 exact ⟨v74,c75,.nil,[],by first | trivial | rfl,hv76,a2u,((a0k ((a0k (hS84)))) : Sep _ (geL h.length) (c75++([])))⟩
end Go.Proofs.Ytanblnjomhgphaa.X
namespace Go.Proofs.Ytanblnjomhgphaa.X
open Go
theorem qls {W:Nat→Bool}{h:Heap} (hW:∀ b,
  (geL h.length) b→W b=true) (r_0:Raft) (r:Raft) (hF:qc8 r_0=some r) : Ret E W 71 [.agg [lst qs r_0.Peers,
  lst qu r_0.Mail]] h (fun v h'=>∃ l9 g9 i5 i0,v = .agg [l9,
  i5]∧SlN Peer.R 5 43 l9 r.Peers g9∧SlN Mail.R 9 86 i5 r.Mail i0∧Sep h' (geL h.length) (g9++(i0++([])))):=by
 refine Ret.of (fn:=x71) rfl (Run.of ?_)
 unfold qc8 at hF
 have zf0:zk [.agg [lst qs r_0.Peers,lst qu r_0.Mail]] 0 = .agg [lst qs r_0.Peers,lst qu r_0.Mail]:=rfl
 generalize zk [.agg [lst qs r_0.Peers,lst qu r_0.Mail]]=fr0 at zf0 ⊢
 have hS:Sep h (geL h.length) []:=a14 h
 simp only [x71,qf,qe,ym,zf0,B0,reduceIte,a8]
 refine ko (cs:=[lst qs r_0.Peers,lst qu r_0.Mail]) hS rfl rfl rfl (fun b1 h2 hS3=>?_)
 simp only [ji,B0,reduceIte,a8]
 refine z6 hS3 (fun b5 h6 hS7=>?_)
 simp only [qa,B0,reduceIte,a8]
 refine jc (t6 hS7) hW (by simp only [B0,reduceIte,a8]) (fun h9 hS10=>?_)
 simp only [z5,qtr,qf,qe,run_build,evp,B0,reduceIte,a8]
 refine qd (v := .agg [.nil,.nil]) rfl ?_
 simp only [ji,B0,reduceIte,a8]
 refine z6 hS10 (fun b11 h12 hS13=>?_)
 simp only [zh,B0,reduceIte,a8]
 refine qy (us:=[.nil,.nil]) rfl (cs':=[.nil,.nil]) hS13 hW rfl rfl (nle rfl) rfl (fun h15 hS16=>?_)
 simp only [qa,qub,qf,qe,qo,qb,o7,o8,o9,qn,ql,B0,reduceIte,a8]
 refine qd (v:=lst qs r_0.Peers) rfl ?_
 simp only [zq,qb,z7,qg,qa,B0,reduceIte,a8]
 obtain ⟨oc29,hX31,hk32⟩:=kd hF
 simp only [q9g]
 refine yi (σ:=Raft) r_0.Peers (fun i27 x28 s109=>qap i27 x28 s109) (fun s fr' h'=>∃ v24 c25,fr' 1 = .ref [lst qs r_0.Peers,
   lst qu r_0.Mail] 0∧fr' 2 = .ptr b5 0∧fr' 3 = .ptr b11 0∧fr' 10=lst qs r_0.Peers∧SlN Peer.R 5 43 v24 s.Peers c25∧Sep h' (geL h.length)
   ([Blk1 b5 [.nil,.nil] 29]++([Blk1 b11 [v24,.nil] 29]++(c25++([]))))) hX31 ⟨.nil,[],rfl,rfl,rfl,rfl,a2u,
   ((t6 hS16) : Sep _ (geL h.length) ([Blk1 b5 [.nil,.nil] 29]++([Blk1 b11 [.nil,.nil] 29]++([]))))⟩ (by simp only [B0,reduceIte,a8]) (by simp only [B0,
   reduceIte,a8]) (fun _ _ _ h=>h) rfl rfl (fun _ _ _ _ h=>h) (fun _ _ _ _ h=>h) (fun _ _ _ _ h=>h) (by decide) ?_ ?_
 ·rintro i27 x28 s22 fr41 h42 hx48 ⟨v24,c25,f44,f45,f46,f47,hv26,hS43⟩ f49 f50 oc30 hF33 hr34 Q35 hN36 hB40 hK37 hR38 hE39
  unfold qap at hF33
  simp only [q47,qf,qe,f47,f49,jj,B0,reduceIte,a8]
  refine qd (v := .ref (qs x28) 0) (yj hx48 rfl) ?_
  simp only [ql,B0,reduceIte,a8]
  refine qd (v := .agg [.int .i64 x28.Term,.bool x28.Leads,lst qh x28.Log,.int .i64 x28.Commit,lst cI x28.Match]) rfl ?_
  simp only [ji,B0,reduceIte,a8]
  refine z6 hS43 (fun b51 h52 hS53=>?_)
  simp only [zh,B0,reduceIte,a8]
  refine qy (us:=[.int .i64 x28.Term,.bool x28.Leads,lst qh x28.Log,.int .i64 x28.Commit,lst cI x28.Match]) rfl (cs':=[.int .i64 x28.Term,
    .bool x28.Leads,lst qh x28.Log,.int .i64 x28.Commit,lst cI x28.Match]) hS53 hW rfl rfl (nle rfl) rfl (fun h55 hS56=>?_)
  simp only [qa,q7r,qf,qe,jy,evp,B0,reduceIte,a8]
  refine kg (n:=2) (f:=qh) ([] : List Entry) hS56 rfl rfl (fun v57 c58 h59 hv60 hS61=>?_)
  simp only [qo,qb,o7,o8,o9,qv,ql,B0,reduceIte,a8]
  refine qd (v:=lst qh x28.Log) ((ja (a0g _ _ _ (t6 hS61))).trans rfl) ?_
  simp only [yv,B0,reduceIte,a8]
  obtain ⟨l63,hx64,hF65⟩:=qk hF33
  refine wh (f:=qh) hv60 hS61 hW (fun _=>rfl) (fun _=>rfl) (qbg (fun _=>rfl)) hx64 (fun v66 c67 h68 hv69 hS70=>?_)
  simp only [qo,qb,o7,o8,o9,qv,zh,B0,reduceIte,a8]
  refine qy (us:=[v66]) (jp (a01 hv69)) (cs':=[.int .i64 x28.Term,.bool x28.Leads,v66,.int .i64 x28.Commit,
    lst cI x28.Match]) (t6 hS70) hW rfl (qp (a01 hv69) zp) (nle rfl) rfl (fun h72 hS73=>?_)
  simp only [qa,q6g,qf,qe,jy,evp,B0,reduceIte,a8]
  refine kg (n:=1) (f:=cI) ([] : List Int) hS73 rfl rfl (fun v74 c75 h76 hv77 hS78=>?_)
  simp only [qo,qb,o7,o8,o9,qv,ql,B0,reduceIte,a8]
  refine qd (v:=lst cI x28.Match) ((ja (a0g _ _ _ (t6 hS78))).trans rfl) ?_
  simp only [yv,B0,reduceIte,a8]
  obtain ⟨l80,hx81,hF82⟩:=qk hF65
  refine wh (f:=cI) hv77 hS78 hW (fun _=>rfl) (fun _=>rfl) (qbg (fun _=>rfl)) hx81 (fun v83 c84 h85 hv86 hS87=>?_)
  simp only [qo,qb,o7,o8,o9,qv,zh,B0,reduceIte,a8]
  refine qy (us:=[v83]) (jp (a01 hv86)) (cs':=[.int .i64 x28.Term,.bool x28.Leads,v66,.int .i64 x28.Commit,
    v83]) (t6 hS87) hW rfl (qp (a01 hv86) zp) (nle rfl) rfl (fun h89 hS90=>?_)
  simp only [qa,q8n,qe,f46,qo,qb,o7,o8,o9,qv,ql,B0,reduceIte,a8]
  refine qd (v:=v24) ((ja (a0g _ _ _ (a0j hS90))).trans rfl) ?_
  simp only [ql,B0,reduceIte,a8]
  refine qd (v := .agg [.int .i64 x28.Term,.bool x28.Leads,v66,.int .i64 x28.Commit,v83]) ((zw (a0g _ _ _ hS90)).trans rfl) ?_
  simp only [jy,evp,B0,reduceIte,a8]
  refine ux (R:=Peer.R) (n:=5) (cs:=[.int .i64 x28.Term,.bool x28.Leads,v66,.int .i64 x28.Commit,
    v83]) (os:=c67++(c84)) (Sep.bi2 (c1:=c67) (c2:=c84) (s9 (t6 hS90))) (qel (us:=[.int .i64 x28.Term,.bool x28.Leads,v66,.int .i64 x28.Commit,
    v83]) (vs:=[.int .i64 x28.Term,.bool x28.Leads,v66,.int .i64 x28.Commit,
    v83]) rfl rfl (nle rfl) (qp rfl (qp rfl (qp (a01 hv69) (qp rfl (qp (a01 hv86) zp))))) rfl qek) (Peer.RI (x :=
    (Peer.mk x28.Term x28.Leads l63 x28.Commit l80)) hv69 hv86) rfl (fun v91 c92 h93 hv94 hS95=>?_)
  simp only [yv,B0,reduceIte,a8]
  obtain ⟨l97,hx98,hF99⟩:=qk hF82
  refine qa8 (R:=Peer.R) (c:=c25) hv26 hv94 (a0j hS95) hW Peer.RO.len Peer.RO.one hx98 (fun v100 c101 h102 hv103 hS104=>?_)
  simp only [f46,qo,qb,o7,o8,o9,qv,zh,B0,reduceIte,a8]
  refine qy (us:=[v100]) (jp (a0n hv103)) (cs':=[v100,.nil]) (t5 hS104) hW rfl (qp (a0n hv103) zp) (nle rfl) rfl (fun h106 hS107=>?_)
  simp only [qa,qm,B0,reduceIte,a8]
  have e108:=qj hF99
  exact hN36 _ _ _ e108.symm ⟨v100,c101,f44,f45,f46,f47,hv103,(s9 (t6 (t6 (a0k (s9 hS107)))))⟩ (f49) (f50)
 rintro s110 fr115 h116 rfl ⟨v112,c113,f118,f119,f120,f121,hv114,hS117⟩
 dsimp only [jnO] at hk32
 unfold qey at hk32
 simp only [qsd,qf,qe,f118,qo,qb,o7,o8,o9,qn,ql,B0,reduceIte,a8]
 refine qd (v:=lst qu r_0.Mail) rfl ?_
 simp only [zq,qb,z7,qg,qa,B0,reduceIte,a8]
 obtain ⟨oc134,hX136,hk137⟩:=kd hk32
 simp only [qtz]
 refine yi (σ:=Raft) r_0.Mail (fun i132 x133 s196=>qan s110 i132 x133 s196) (fun s fr' h'=>∃ v129 c130,
   fr' 2 = .ptr b5 0∧fr' 3 = .ptr b11 0∧fr' 34=lst qu r_0.Mail∧SlN Mail.R 9 86 v129 s.Mail c130∧Sep h' (geL h.length) ([Blk1 b5 [.nil,
   .nil] 29]++([Blk1 b11 [v112,v129] 29]++(c113++(c130++([])))))) hX136 ⟨.nil,[],f119,f120,rfl,a2u,
   ((s9 (s9 (s9 hS117))) : Sep _ (geL h.length) ([Blk1 b5 [.nil,.nil] 29]++([Blk1 b11 [v112,.nil] 29]++(c113++([])))))⟩ (by simp only [B0,reduceIte,
   a8]) (by simp only [B0,reduceIte,a8]) (fun _ _ _ h=>h) rfl rfl (fun _ _ _ _ h=>h) (fun _ _ _ _ h=>h) (fun _ _ _ _ h=>h) (by decide) ?_ ?_
 ·rintro i132 x133 s127 fr146 h147 hx152 ⟨v129,c130,f149,f150,f151,hv131,hS148⟩ f153 f154 oc135 hF138 hr139 Q140 hN141 hB145 hK142 hR143 hE144
  unfold qan at hF138
  simp only [q2s,qf,qe,f151,f153,jj,B0,reduceIte,a8]
  refine qd (v := .ref (qu x133) 0) (yj hx152 rfl) ?_
  simp only [ql,B0,reduceIte,a8]
  refine qd (v := .agg [.bool x133.Reply,.int .i64 x133.From,.int .i64 x133.To,.int .i64 x133.Term,.int .i64 x133.Prev,.int .i64 x133.PTerm,
    lst qh x133.Entry,.int .i64 x133.Commit,.int .i64 x133.Match]) rfl ?_
  simp only [ji,B0,reduceIte,a8]
  refine z6 hS148 (fun b155 h156 hS157=>?_)
  simp only [zh,B0,reduceIte,a8]
  refine qy (us:=[.bool x133.Reply,.int .i64 x133.From,.int .i64 x133.To,.int .i64 x133.Term,.int .i64 x133.Prev,.int .i64 x133.PTerm,lst qh x133.Entry,
    .int .i64 x133.Commit,.int .i64 x133.Match]) rfl (cs':=[.bool x133.Reply,.int .i64 x133.From,.int .i64 x133.To,.int .i64 x133.Term,.int .i64 x133.Prev,
    .int .i64 x133.PTerm,lst qh x133.Entry,.int .i64 x133.Commit,.int .i64 x133.Match]) hS157 hW rfl rfl (nle rfl) rfl (fun h159 hS160=>?_)
  simp only [qa,q46,qf,qe,jy,evp,B0,reduceIte,a8]
  refine kg (n:=2) (f:=qh) ([] : List Entry) hS160 rfl rfl (fun v161 c162 h163 hv164 hS165=>?_)
  simp only [qo,qb,o7,o8,o9,qv,ql,B0,reduceIte,a8]
  refine qd (v:=lst qh x133.Entry) ((ja (a0g _ _ _ (t6 hS165))).trans rfl) ?_
  simp only [yv,B0,reduceIte,a8]
  obtain ⟨l167,hx168,hF169⟩:=qk hF138
  refine wh (f:=qh) hv164 hS165 hW (fun _=>rfl) (fun _=>rfl) (qbg (fun _=>rfl)) hx168 (fun v170 c171 h172 hv173 hS174=>?_)
  simp only [qo,qb,o7,o8,o9,qv,zh,B0,reduceIte,a8]
  refine qy (us:=[v170]) (jp (a01 hv173)) (cs':=[.bool x133.Reply,.int .i64 x133.From,.int .i64 x133.To,.int .i64 x133.Term,.int .i64 x133.Prev,
    .int .i64 x133.PTerm,v170,.int .i64 x133.Commit,.int .i64 x133.Match]) (t6 hS174) hW rfl (qp (a01 hv173) zp) (nle rfl) rfl (fun h176 hS177=>?_)
  simp only [qa,q9d,qe,f150,qo,qb,o7,o8,o9,qv,ql,B0,reduceIte,a8]
  refine qd (v:=v129) ((ja (a0g _ _ _ (t5 hS177))).trans rfl) ?_
  simp only [ql,B0,reduceIte,a8]
  refine qd (v := .agg [.bool x133.Reply,.int .i64 x133.From,.int .i64 x133.To,.int .i64 x133.Term,.int .i64 x133.Prev,.int .i64 x133.PTerm,v170,
    .int .i64 x133.Commit,.int .i64 x133.Match]) ((zw (a0g _ _ _ hS177)).trans rfl) ?_
  simp only [jy,evp,B0,reduceIte,a8]
  refine ux (R:=Mail.R) (n:=9) (cs:=[.bool x133.Reply,.int .i64 x133.From,.int .i64 x133.To,.int .i64 x133.Term,.int .i64 x133.Prev,.int .i64 x133.PTerm,
    v170,.int .i64 x133.Commit,.int .i64 x133.Match]) (os:=c171) (t6 hS177) (qel (us:=[.bool x133.Reply,.int .i64 x133.From,.int .i64 x133.To,
    .int .i64 x133.Term,.int .i64 x133.Prev,.int .i64 x133.PTerm,v170,.int .i64 x133.Commit,.int .i64 x133.Match]) (vs:=[.bool x133.Reply,.int .i64 x133.From,
    .int .i64 x133.To,.int .i64 x133.Term,.int .i64 x133.Prev,.int .i64 x133.PTerm,v170,.int .i64 x133.Commit,
    .int .i64 x133.Match]) rfl rfl (nle rfl) (qp rfl (qp rfl (qp rfl (qp rfl (qp rfl (qp rfl (qp (a01 hv173) (qp rfl
    (qp rfl zp))))))))) rfl qek) (Mail.RI (x:=(Mail.mk x133.Reply x133.From x133.To x133.Term x133.Prev x133.PTerm l167 x133.Commit x133.Match)) hv173) rfl
    (fun v178 c179 h180 hv181 hS182=>?_)
  simp only [yv,B0,reduceIte,a8]
  obtain ⟨l184,hx185,hF186⟩:=qk hF169
  refine qa8 (R:=Mail.R) (c:=c130) hv131 hv181 (t8 hS182) hW Mail.RO.len Mail.RO.one hx185 (fun v187 c188 h189 hv190 hS191=>?_)
  simp only [f150,qo,qb,o7,o8,o9,qv,zh,B0,reduceIte,a8]
  refine qy (us:=[v187]) (jp (a0n hv190)) (cs':=[v112,v187]) (t5 hS191) hW rfl (qp (a0n hv190) zp) (nle rfl) rfl (fun h193 hS194=>?_)
  simp only [qa,qm,B0,reduceIte,a8]
  have e195:=qj hF186
  exact hN141 _ _ _ e195.symm ⟨v187,c188,f149,f150,f151,hv190,(t5 (s9 (t5 (t6 (a0k (s9 hS194))))))⟩ (f153) (f154)
 rintro s197 fr202 h203 rfl ⟨v199,c200,f205,f206,f207,hv201,hS204⟩
 dsimp only [jnO] at hk137
 unfold qhr at hk137
 simp only [qf,qe,f206,ql,B0,reduceIte,a8]
 refine qd (v := .agg [v112,v199]) ((zw (a0g _ _ _ (t6 hS204))).trans rfl) ?_
 simp only [f205,zh,B0,reduceIte,a8]
 refine qy (us:=[v112,v199]) rfl (cs':=[v112,v199]) hS204 hW rfl (qp (a0n hv114) (qp (a0n hv201) zp)) (nle rfl) rfl (fun h208 hS209=>?_)
 simp only [qa,zc,B0,reduceIte,a8]
 have he:=qj hk137
 subst he
 refine wa (bb:=b5) (oo:=0) (v := .agg [v112,v199]) (by simp only [f205,B0,reduceIte,a8]) ((zw (a0g _ _ _ hS209)).trans rfl) ?_
 exact ⟨v112,c113,v199,c200,by first | trivial | rfl,hv114,hv201,(t6 (t6 (a0k ((a0k (hS209))))))⟩
theorem qpw {W:Nat→Bool}{h:Heap} (hW:∀ b,
  (geL h.length) b→W b=true) (i4:Int) (r:Int) (hF:qe5 i4=some r) : Ret E W 103 [.int .u32 i4] h
  (fun v h'=>cut h.length h' E.sz false 9 v=some (.int .i64 r)):=by
 refine Ret.of (fn:=qrd) rfl (Run.of ?_)
 unfold qe5 at hF
 have zf0:zk [.int .u32 i4] 0 = .int .u32 i4:=rfl
 generalize zk [.int .u32 i4]=fr0 at zf0 ⊢
 have hS:Sep h (geL h.length) []:=a14 h
 obtain ⟨y1,hx2,hF3⟩:=qk hF
 simp only [qrd,qf,qe,qg,qa,qt9,jg,zf0,zz,qi,j5,uq (n:=24) (by decide),qkd,B0,reduceIte,a8]
 refine qq (qi9 hx2) ?_
 obtain ⟨y4,hx5,hF6⟩:=qk hF3
 simp only [zf0,zz,qi,j5,uq (n:=16) (by decide),qfl,qkd,B0,reduceIte,a8]
 refine qq (qi9 hx5) ?_
 obtain ⟨y7,hx8,hF9⟩:=qk hF6
 simp only [j5,qi,ur,zf0,zz,uq (n:=8) (by decide),qfl,qkd,B0,reduceIte,a8]
 refine qq (qi9 hx8) ?_
 obtain ⟨y10,hx11,hF12⟩:=qk hF9
 simp only [j5,qi,ur,zf0,zz,qfl,qkd,B0,reduceIte,a8]
 refine qq (qi9 hx11) ?_
 simp only [j5,qi,ur,qop,qfq,zz,za,zc,B0,reduceIte,a8]
 have he:=qj hF12
 subst he
 simp only [zr,B0,reduceIte,a8]
 exact rfl
theorem qh3 {W:Nat→Bool}{h:Heap} (hW:∀ b,
  (geL h.length) b→W b=true) (i4:Int) (r:Int) (hF:some (qcn i4)=some r) : Ret E W 104 [.int .u64 i4] h
  (fun v h'=>cut h.length h' E.sz false 9 v=some (.int .i64 r)):=by
 refine Ret.of (fn:=qd9) rfl (Run.of ?_)
 unfold qcn at hF
 have zf0:zk [.int .u64 i4] 0 = .int .u64 i4:=rfl
 generalize zk [.int .u64 i4]=fr0 at zf0 ⊢
 have hS:Sep h (geL h.length) []:=a14 h
 simp only [qd9,qf,qe,qg,qa,qty,zf0,qx,qb,uq (n:=1) (by decide),qfl,ur,qxk,uq (n:=2) (by decide),
   qvu,uq (n:=4) (by decide),qws,uq (n:=8) (by decide),qss,uq (n:=16) (by decide),qxs,uq (n:=32) (by decide),qzv,qhg,
   qfq,zc,B0,reduceIte,a8]
 have he:=qj hF
 subst he
 simp only [zr,B0,reduceIte,a8]
 exact rfl
theorem qi2 {W:Nat→Bool}{h:Heap} (hW:∀ b,
  (geL h.length) b→W b=true) (i4:Int) (r:Int) (hF:some (kx i4)=some r) : Ret E W 89 [.int .u64 i4] h
  (fun v h'=>cut h.length h' E.sz false 9 v=some (.int .i64 r)):=by
 refine Ret.of (fn:=x89) rfl (Run.of ?_)
 unfold kx at hF
 have zf0:zk [.int .u64 i4] 0 = .int .u64 i4:=rfl
 generalize zk [.int .u64 i4]=fr0 at zf0 ⊢
 have hS:Sep h (geL h.length) []:=a14 h
 simp only [x89,qf,qe,qg,qa,q9x,q8,qjj,zd,zf0,zi,B0,reduceIte,a8]
 refine jx rfl (qt zb zm) (qh3 (fun b hb=>decide_eq_true hb) i4 _ rfl) ?_
 simp only [qg,qa,zc,B0,reduceIte,a8]
 have he:=qj hF
 subst he
 simp only [zr,B0,reduceIte,a8]
 exact rfl
theorem qip {W:Nat→Bool}{h:Heap} (hW:∀ b,
  (geL h.length) b→W b=true) (i6:List Entry) (r:List Int) (hF:qce i6=some r) : Ret E W 90 [lst qh i6] h
  (fun v h'=>cut h.length h' E.sz false 9 v=some (lst cI r)):=by
 refine Ret.of (fn:=x90) rfl (Run.of ?_)
 unfold qce at hF
 have zf0:zk [lst qh i6] 0=lst qh i6:=rfl
 generalize zk [lst qh i6]=fr0 at zf0 ⊢
 have hS:Sep h (geL h.length) []:=a14 h
 simp only [x90,qf,qe,qg,qa,q4r,jy,evp,B0,reduceIte,a8]
 refine kg (n:=1) (f:=cI) ([] : List Int) hS rfl rfl (fun v1 c2 h3 hv4 hS5=>?_)
 simp only [qg,qa,q3y,qf,qe,zf0,zq,qb,z7,B0,reduceIte,a8]
 obtain ⟨oc19,hX21,hk22⟩:=kd hF
 simp only [q5m]
 refine yi (σ:=(List Int)) i6 (fun i17 x18 s63=>qdl i17 x18 s63) (fun s fr' h'=>∃ v14 c15,
   fr' 3=v14∧fr' 7=lst qh i6∧SlF cI 1 3 v14 s c15∧Sep h' (geL h.length) (c15++([]))) hX21 ⟨v1,c2,rfl,rfl,hv4,hS5⟩ (by simp only [B0,reduceIte,
   a8]) (by simp only [B0,reduceIte,a8]) (fun _ _ _ h=>h) rfl rfl (fun _ _ _ _ h=>h) (fun _ _ _ _ h=>h) (fun _ _ _ _ h=>h) (by decide) ?_ ?_
 ·rintro i17 x18 s12 fr31 h32 hx36 ⟨v14,c15,f34,f35,hv16,hS33⟩ f37 f38 oc20 hF23 hr24 Q25 hN26 hB30 hK27 hR28 hE29
  unfold qdl at hF23
  simp only [q4n,qf,qe,f35,f37,jj,B0,reduceIte,a8]
  refine qd (v := .ref (qh x18) 0) (yj hx36 rfl) ?_
  simp only [ql,B0,reduceIte,a8]
  refine qd (v := .agg [.int .i64 x18.Term,.int .i64 x18.Value]) rfl ?_
  simp only [ji,B0,reduceIte,a8]
  refine z6 hS33 (fun b39 h40 hS41=>?_)
  simp only [zh,B0,reduceIte,a8]
  refine qy (us:=[.int .i64 x18.Term,.int .i64 x18.Value]) rfl (cs':=[.int .i64 x18.Term,.int .i64 x18.Value]) hS41 hW rfl rfl (nle rfl) rfl (fun h43 hS44=>?_)
  simp only [qa,B0,reduceIte,a8]
  refine jc hS44 hW (by simp only [B0,reduceIte,a8]) (fun h45 hS46=>?_)
  simp only [z5,q7j,qe,f34,qg,qo,qb,o7,o8,o9,qn,ql,B0,reduceIte,a8]
  refine qd (v := .int .i64 x18.Term) rfl ?_
  simp only [jy,evp,B0,reduceIte,a8]
  refine kg (n:=1) (f:=cI) [x18.Term] hS46 rfl rfl (fun v47 c48 h49 hv50 hS51=>?_)
  simp only [yv,B0,reduceIte,a8]
  obtain ⟨l53,hx54,hF55⟩:=qk hF23
  refine wh (f:=cI) hv16 (t6 hS51) hW (fun _=>rfl) (fun _=>rfl) (SlF.first hv50 hS51 (fun _=>rfl)) hx54 (fun v56 c57 h58 hv59 hS60=>?_)
  simp only [qg,qa,qm,B0,reduceIte,a8]
  have e62:=qj hF55
  exact hN26 _ _ _ e62.symm ⟨v56,c57,rfl,f35,hv59,(a0k (t6 hS60))⟩ (f37) (f38)
 rintro s64 fr69 h70 rfl ⟨v66,c67,f72,f73,hv68,hS71⟩
 dsimp only [jnO] at hk22
 unfold qih at hk22
 simp only [qf,qe,f72,qg,qa,zc,B0,reduceIte,a8]
 have he:=qj hk22
 subst he
 simp only [zr,B0,reduceIte,a8]
 exact (SlF.cut hv68 hS71 (fun _ hb=>hb) rfl (fun _=>rfl) (fun _=>rfl))
theorem qg3 {W:Nat→Bool}{h:Heap} (hW:∀ b,
  (geL h.length) b→W b=true) (i6:List Int) (r:Int) (hF:qbl i6=some r) : Ret E W 92 [lst cI i6] h (fun v h'=>cut h.length h' E.sz false 9 v=some
  (.int .i64 r)):=by
 refine Ret.of (fn:=x92) rfl (Run.of ?_)
 unfold qbl at hF
 have zf0:zk [lst cI i6] 0=lst cI i6:=rfl
 generalize zk [lst cI i6]=fr0 at zf0 ⊢
 have hS:Sep h (geL h.length) []:=a14 h
 simp only [x92,qf,qe,qg,qa,q7l,zf0,zq,qb,z7,qx,ku,q8,B0,reduceIte,a8]
 refine q9 (t:=(decide ((p9 i6:Int)=0))) (fun hc1=>?_) (fun hc1=>?_)
 ·rw [iteT hc1] at hF
  simp only [qf,qe,qg,qa,zc,B0,reduceIte,a8]
  have he:=qj hF
  subst he
  simp only [zr,B0,reduceIte,a8]
  exact rfl
 rw [iteF hc1] at hF
 obtain ⟨x2,hx3,hF4⟩:=qk hF
 simp only [zd,q9i,qf,qe,zf0,qg,zq,qb,z7,qx,qbp,jj,B0,reduceIte,a8]
 refine qd (v := .ref (cI x2) 0) (xg hx3 rfl) ?_
 simp only [ql,B0,reduceIte,a8]
 refine qd (v := .int .i64 x2) rfl ?_
 simp only [qg,qa,zc,B0,reduceIte,a8]
 have he:=qj hF4
 subst he
 simp only [zr,B0,reduceIte,a8]
 exact rfl
theorem qlq {W:Nat→Bool}{h:Heap} (hW:∀ b,
  (geL h.length) b→W b=true) (last_0:Int) (long_1:Int) (b_2:List Int) (r:Bool) (hF:qc7 last_0 long_1 b_2=some r) : Ret E W 91 [.int .i64 last_0,
  .int .i64 long_1,lst cI b_2] h (fun v h'=>cut h.length h' E.sz false 9 v=some (.bool r)):=by
 refine Ret.of (fn:=x91) rfl (Run.of ?_)
 unfold qc7 at hF
 have zf0:zk [.int .i64 last_0,.int .i64 long_1,lst cI b_2] 0 = .int .i64 last_0:=rfl
 have zf1:zk [.int .i64 last_0,.int .i64 long_1,lst cI b_2] 1 = .int .i64 long_1:=rfl
 have zf2:zk [.int .i64 last_0,.int .i64 long_1,lst cI b_2] 2=lst cI b_2:=rfl
 generalize zk [.int .i64 last_0,.int .i64 long_1,lst cI b_2]=fr0 at zf0 zf1 zf2 ⊢
 have hS:Sep h (geL h.length) []:=a14 h
 obtain ⟨v1,hx2,hF3⟩:=qk hF
 simp only [x91,qf,qe,qg,qa,q63,zf0,zf2,zi,B0,reduceIte,a8]
 refine jx rfl (qt jh zm) (qg3 (fun b hb=>decide_eq_true hb) b_2 v1 hx2) ?_
 simp only [qx,qb,ww,qg,B0,reduceIte,a8]
 obtain ⟨v7,hx8,hF9⟩:=qk hF3
 refine jf 11 (fun fr' h'=>Sep h' (geL h.length) ([])∧fr' 22 = .bool v7) (fun Q4 hN5=>?_) ?_
 ·simp only [s5,t4]
  simp only [qc (g:=11),B0,reduceIte,a8]
  refine zf (t:=(decide (v1<last_0))) (fun hg6=>?_) (fun hg6=>?_)
  ·rw [iteT hg6] at hx8
   simp only [hg6,qc (g:=11),zx,qc (g:=16),qcs,qw,qb,zo,qa,qm,B0,reduceIte,a8]
   have e10:=qj hx8
   exact hN5 _ _ ⟨hS,by rw [←e10]; simp only [B0,reduceIte,a8]⟩
  ·rw [iteF hg6] at hx8
   obtain ⟨v11,hx12,hF13⟩:=qk hx8
   simp only [hg6,qc (g:=11),qr,zf0,qg,zf2,zi,B0,reduceIte,a8]
   refine jx rfl (qt jh zm) (qg3 (fun b hb=>decide_eq_true hb) b_2 v11 hx12) ?_
   simp only [hg6,qc (g:=11),qr,qx,qb,ku,qg,B0,reduceIte,a8]
   refine jf 5 (fun fr' h'=>Sep h' (geL h.length) ([])∧fr' 21 = .bool ((decide (last_0=v11))&&(decide ((p9 b_2:Int)≤long_1)))∧fr' 11 = .bool (decide
     (v1<last_0))) (fun Q14 hN15=>?_) ?_
   ·simp only [s5,t4]
    simp only [qc (g:=16),B0,reduceIte,a8]
    refine zf (t:=(decide (last_0=v11))) (fun hg16=>?_) (fun hg16=>?_)
    ·simp only [hg16,qc (g:=16),zu,zf1,qg,zf2,zq,qb,z7,qx,qga,hg6,qc (g:=11),qr,qw,
      zo,qa,qm,B0,reduceIte,a8]
     exact hN15 _ _ ⟨hS,by rw [qat hg16]; simp only [B0,reduceIte,a8],by simp only [hg6,B0,reduceIte,a8]⟩
    ·simp only [hg16,qc (g:=16),kj,hg6,qc (g:=11),qr,qw,qb,zn,qa,qm,B0,reduceIte,a8]
     exact hN15 _ _ ⟨hS,by rw [qao hg16]; simp only [B0,reduceIte,a8],by simp only [hg6,B0,reduceIte,a8]⟩
   rintro fr17 h20 ⟨hS21,f18,f19⟩
   simp only [s6,t3]
   simp only [f19,hg6,qw,qb,zn,f18,qa,qm,B0,reduceIte,a8]
   have e22:=qj hF13
   exact hN5 _ _ ⟨hS21,by rw [←e22]; simp only [B0,reduceIte,a8]⟩
 rintro fr23 h25 ⟨hS26,f24⟩
 simp only [s6,t3]
 simp only [f24,qg,qa,zc,B0,reduceIte,a8]
 have he:=qj hF9
 subst he
 simp only [zr,B0,reduceIte,a8]
 exact rfl
theorem qkn {W:Nat→Bool}{h:Heap}{lo:Nat→Prop}{S0:List Obj} (hW:∀ b,
  lo b→W b=true) (pb0:Nat) (d8:Raft) (d6:XV) (f4:List Obj) (e9:SlN Peer.R 5 43 d6 d8.Peers f4) (d7:XV) (d9:List Obj)
  (e8:SlN Mail.R 9 86 d7 d8.Mail d9) (a9:Int) (i9:Int) (r:Bool × Raft) (hF:wd d8 a9 i9=some r) (hS:Sep h lo ([Blk1 pb0 [d6,
  d7] 29]++(f4++(d9++(S0))))) : Ret E W 72 [.ptr pb0 0,.int .i64 a9,.int .i64 i9] h (fun v h'=>∃ ic0_0 ic0_1,
  v = .bool r.1∧SlN Peer.R 5 43 d6 r.2.Peers ic0_0∧SlN Mail.R 9 86 d7 r.2.Mail ic0_1∧Sep h' lo ([Blk1 pb0 [d6,d7] 29]++(ic0_0++(ic0_1++(S0))))):=by
 refine Ret.of (fn:=x72) rfl (Run.of ?_)
 unfold wd at hF
 have zf0:zk [.ptr pb0 0,.int .i64 a9,.int .i64 i9] 0 = .ptr pb0 0:=rfl
 have zf1:zk [.ptr pb0 0,.int .i64 a9,.int .i64 i9] 1 = .int .i64 a9:=rfl
 have zf2:zk [.ptr pb0 0,.int .i64 a9,.int .i64 i9] 2 = .int .i64 i9:=rfl
 generalize zk [.ptr pb0 0,.int .i64 a9,.int .i64 i9]=fr0 at zf0 zf1 zf2 ⊢
 simp only [x72,qf,qe,qg,qa,qwm,zf0,wb,qb,zv,qo,o7,o8,o9,qv,ql,B0,
   reduceIte,a8]
 refine qd (v:=d6) ((ja (a0g _ _ _ hS)).trans rfl) ?_
 simp only [zq,qb,SlN.len e9,qg,qa,qyk,qf,qe,zf2,qx,qch,B0,reduceIte,a8]
 obtain ⟨v4,hx5,hF6⟩:=qk hF
 refine jf 5 (fun fr' h'=>Sep h' lo ([Blk1 pb0 [d6,
   d7] 29]++(f4++(d9++(S0))))∧fr' 26 = .bool v4∧fr' 0 = .ptr pb0 0∧fr' 1 = .int .i64 a9∧fr' 2 = .int .i64 i9∧fr' 7 = .int .i64
   (p9 d8.Peers:Int)) (fun Q1 hN2=>?_) ?_
 ·simp only [s5,t4]
  simp only [qc (g:=21),B0,reduceIte,a8]
  refine zf (t:=(decide (i9<0))) (fun hg3=>?_) (fun hg3=>?_)
  ·rw [iteT hg3] at hx5
   simp only [hg3,qc (g:=21),zx,qw,qb,zo,qa,qm,B0,reduceIte,a8]
   have e7:=qj hx5
   exact hN2 _ _ ⟨(s9 (s9 (s9 hS))),by rw [←e7]; simp only [B0,reduceIte,a8],zf0,zf1,zf2,rfl⟩
  ·rw [iteF hg3] at hx5
   obtain ⟨hp8,hF9⟩:=qa2 hx5
   simp only [hg3,qc (g:=21),qr,zf2,qg,qx,qb,qnd (n:=(p9 d8.Peers:Int)) hp8,qga,qw,zn,qa,
     qm,B0,reduceIte,a8]
   have e10:=qj hF9
   exact hN2 _ _ ⟨(s9 (s9 (s9 hS))),by rw [←e10]; simp only [B0,reduceIte,a8],zf0,zf1,zf2,rfl⟩
 rintro fr11 h17 ⟨hS18,f12,f13,f14,f15,f16⟩
 simp only [s6,t3]
 simp only [f12,qg,B0,reduceIte,a8]
 obtain ⟨v22,hx23,hF24⟩:=qk hF6
 refine jf 6 (fun fr' h'=>Sep h' lo ([Blk1 pb0 [d6,
   d7] 29]++(f4++(d9++(S0))))∧fr' 33 = .bool v22∧fr' 0 = .ptr pb0 0∧fr' 1 = .int .i64 a9∧fr' 2 = .int .i64 i9∧fr' 7 = .int .i64
   (p9 d8.Peers:Int)) (fun Q19 hN20=>?_) ?_
 ·simp only [s5,t4]
  simp only [qc (g:=27),B0,reduceIte,a8]
  refine zf (t:=v4) (fun hg21=>?_) (fun hg21=>?_)
  ·rw [iteT hg21] at hx23
   simp only [hg21,qc (g:=27),zx,qw,qb,zo,qa,qm,B0,reduceIte,a8]
   have e25:=qj hx23
   exact hN20 _ _ ⟨(s9 (s9 (s9 hS18))),by rw [←e25]; simp only [B0,reduceIte,a8],f13,f14,f15,f16⟩
  ·rw [iteF hg21] at hx23
   obtain ⟨hp26,hF27⟩:=qa2 hx23
   simp only [hg21,qc (g:=27),qr,f15,qg,f14,qx,qb,uq (n:=a9) hp26,qfl,ku,qw,zn,qa,qm,B0,
     reduceIte,a8]
   have e28:=qj hF27
   exact hN20 _ _ ⟨(s9 (s9 (s9 hS18))),by rw [←e28]; simp only [B0,reduceIte,a8],f13,f14,f15,f16⟩
 rintro fr29 h35 ⟨hS36,f30,f31,f32,f33,f34⟩
 simp only [s6,t3]
 simp only [f30,qg,B0,reduceIte,a8]
 refine jf 7 (fun fr' h'=>Sep h' lo ([Blk1 pb0 [d6,
   d7] 29]++(f4++(d9++(S0))))∧fr' 41 = .bool (v22||(decide ((r8 .i64 ((2:Int)*(kx (r8 .u64 i9)))) ≤
   (p9 d8.Peers:Int))))∧fr' 0 = .ptr pb0 0∧fr' 1 = .int .i64 a9∧fr' 2 = .int .i64 i9∧fr' 7 = .int .i64 (p9 d8.Peers:Int))
   (fun Q37 hN38=>?_) ?_
 ·simp only [s5,t4]
  simp only [qc (g:=34),B0,reduceIte,a8]
  refine zf (t:=v22) (fun hg39=>?_) (fun hg39=>?_)
  ·simp only [hg39,qc (g:=34),zx,qw,qb,zo,qa,qm,B0,reduceIte,a8]
   exact hN38 _ _ ⟨(s9 (s9 (s9 hS36))),by rw [orT hg39]; simp only [B0,reduceIte,a8],f31,f32,f33,f34⟩
  ·simp only [hg39,qc (g:=34),qr,f33,qg,qhg,qb,qfq,zi,B0,reduceIte,a8]
   refine jx rfl (qt zb zm) (qi2 (fun b hb=>decide_eq_true hb) (r8 .u64 i9) _ rfl) ?_
   simp only [hg39,qc (g:=34),qr,qx,qb,qmt,f34,qg,qhn,qw,zn,qa,qm,B0,reduceIte,a8]
   exact hN38 _ _ ⟨(s9 (s9 (s9 hS36))),by rw [orF hg39]; simp only [B0,reduceIte,a8],f31,f32,f33,f34⟩
 rintro fr40 h46 ⟨hS47,f41,f42,f43,f44,f45⟩
 simp only [s6,t3]
 simp only [qa,f41,q8,B0,reduceIte,a8]
 refine q9 (t:=(v22||(decide ((r8 .i64 ((2:Int)*(kx (r8 .u64 i9))))≤(p9 d8.Peers:Int))))) (fun hc48=>?_)
   (fun hc48=>?_)
 ·rw [iteT hc48] at hF24
  simp only [qf,qe,qg,qa,zc,B0,reduceIte,a8]
  have he:=qj hF24
  subst he
  simp only [zr,B0,reduceIte,a8]
  exact ⟨f4,d9,by first | trivial | rfl,e9,e8,(s9 (s9 (s9 hS47)))⟩
 rw [iteF hc48] at hF24
 simp only [zd,qxf,qf,qe,f42,qg,wb,qb,zv,qo,o7,o8,o9,qv,ql,B0,reduceIte,
   a8]
 refine qd (v:=d6) ((ja (a0g _ _ _ hS47)).trans rfl) ?_
 obtain ⟨x49,hx50,hF51⟩:=qk hF24
 simp only [f43,qg,jj,B0,reduceIte,a8]
 obtain ⟨b52,hb53⟩:=a24 e9 (j7 hx50)
 refine qd (SlN.ia e9 hb53 hx50) ?_
 obtain ⟨c54,cs55,os56,hv57,hR58,hS59⟩:=a2d (a2f e9 hb53 Peer.RO.len) hx50 zt Peer.RO.len (t6 hS47)
 obtain ⟨v61,c62,v65,c66,hv63,hv67,rfl,rfl⟩:=hR58
 have hS60:=a2j hS59
 simp only [qo,qb,o7,o8,o9,qv,ql,B0,reduceIte,a8]
 refine qd (v:=v61) ((a15 (o:=2) hv57 rfl hx50 hS60 (nle rfl)).trans rfl) ?_
 obtain ⟨v69,hx70,hF71⟩:=qk hF51
 simp only [zi,B0,reduceIte,a8]
 refine jx rfl (qt (SlF.snap hv63 (t6 hS60) rfl (fun _=>rfl) (fun _=>rfl)) zm) (qip (fun b hb=>decide_eq_true hb) x49.Log v69 hx70) ?_
 simp only [qg,qa,qyj,qf,qe,qu7,f42,wb,qb,zv,qo,o7,o8,o9,qv,ql,B0,
   reduceIte,a8]
 refine qd (v:=d6) ((ja (a0g _ _ _ (t5 hS60))).trans rfl) ?_
 simp only [zq,qb,SlG.plen hv57,qg,qa,B0,reduceIte,a8]
 obtain ⟨c72,hv73,hS74⟩:=a1h (c:=c54) (os:=c62++(c66)) hv57 rfl hx50 zt (Peer.RI (x:=x49) hv63 hv67) (a1f (c1:=c62) (c2:=c66) (s9 (s9
   (s9 hS60))))
 have hv75:=a1e hv73
 obtain ⟨oc86,hX88,hk89⟩:=kd hF71
 simp only [q4w]
 refine qas (σ:=Int × (List Peer)) (fun i84 s167=>kn d8 i9 v69 i84 s167.1 s167.2) (fun s fr' h'=>∃ c82,
   fr' 0 = .ptr pb0 0∧fr' 1 = .int .i64 a9∧fr' 2 = .int .i64 i9∧fr' 7 = .int .i64
   (p9 d8.Peers:Int)∧fr' 8=lst cI v69∧fr' 9 = .int .i64 s.1∧fr' 54=d6∧SlN Peer.R 5 43 d6 s.2 c82∧Sep h' lo ([Blk1 pb0 [d6,
   d7] 29]++(c82++(d9++(S0))))) hX88 ⟨c72,f42,f43,f44,f45,rfl,rfl,rfl,hv75,(s9 (t6 (s9 hS74)))⟩ (by simp only [B0,reduceIte,
   a8]) (by simp only [B0,reduceIte,a8]) (fun _ _ _ h=>h) rfl rfl (fun _ _ _ _ h=>h) (fun _ _ _ _ h=>h) (fun _ _ _ _ h=>h) (by decide) ?_ ?_
 ·rintro i84 ⟨s80,s81⟩ fr98 h99 hx108 ⟨c82,f101,f102,f103,f104,f105,f106,f107,hv83,hS100⟩ f109 f110 oc87 hF90 hr91 Q92 hN93 hB97 hK94 hR95 hE96
  dsimp only at *
  unfold kn at hF90
  obtain ⟨x111,hx112,hF113⟩:=qk hF90
  simp only [q48,qf,qe,f109,qg,f107,jj,B0,reduceIte,a8]
  refine qd (SlN.ia hv83 hb53 hx112) ?_
  obtain ⟨c114,cs115,os116,hv117,hR118,hS119⟩:=a2d (a2f hv83 hb53 Peer.RO.len) hx112 zt Peer.RO.len (t6 hS100)
  obtain ⟨v121,c122,v125,c126,hv123,hv127,rfl,rfl⟩:=hR118
  have hS120:=a2j hS119
  simp only [ql,B0,reduceIte,a8]
  refine qd (v := .agg [.int .i64 x111.Term,.bool x111.Leads,v121,.int .i64 x111.Commit,v125]) ((SlG.lds (o:=0) hv117 rfl hx112 hS120 (nle rfl)).trans rfl) ?_
  simp only [ji,B0,reduceIte,a8]
  refine z6 hS120 (fun b129 h130 hS131=>?_)
  simp only [qg,zh,B0,reduceIte,a8]
  refine qy (us:=[.int .i64 x111.Term,.bool x111.Leads,v121,.int .i64 x111.Commit,v125]) rfl (cs':=[.int .i64 x111.Term,.bool x111.Leads,v121,
    .int .i64 x111.Commit,v125]) hS131 hW rfl (qp rfl (qp rfl (qp (a01 hv123) (qp rfl (qp (a01 hv127) zp))))) (nle rfl) rfl (fun h133 hS134=>?_)
  simp only [qa,B0,reduceIte,a8]
  refine jc hS134 hW (by simp only [B0,reduceIte,a8]) (fun h135 hS136=>?_)
  obtain ⟨hp137,hF138⟩:=qa2 hF113
  simp only [z5,q7d,qf,qe,f103,qg,qx,qb,uq (n:=(i84:Int)) hp137,qfl,ku,qa,q3u,q8,B0,reduceIte,
    a8]
  refine q9 (t:=(decide ((z8 .i64 (jo .i64 i9 (i84:Int)) 1)=1))) (fun hc139=>?_) (fun hc139=>?_)
  ·rw [iteT hc139] at hF138
   obtain ⟨v140,hx141,hF142⟩:=qk hF138
   simp only [q60,qf,jg,f105,zz,qi,qgj,B0,reduceIte,a8]
   refine zc1 rfl (qt jh zm) (qg3 (fun b hb=>decide_eq_true hb) v69 v140 hx141) ?_
   simp only [f105,ql4,qi,zcx,z7,qki,o7,o8,o9,qn,qh6,qkj,B0,reduceIte,a8]
   refine qq (v:=v121) rfl ?_
   obtain ⟨v143,hx144,hF145⟩:=qk hF142
   simp only [xa,B0,reduceIte,a8]
   refine qfm rfl (qt (SlF.snap hv123 (t6 hS136) rfl (fun _=>rfl) (fun _=>rfl)) zm) (qip (fun b hb=>decide_eq_true hb) x111.Log v143 hx144) ?_
   obtain ⟨v146,hx147,hF148⟩:=qk hF145
   simp only [xa,B0,reduceIte,a8]
   refine qfm rfl (qt zb (qt zb (qt jh zm))) (qlq (fun b hb=>decide_eq_true hb) v140 (p9 v69:Int) v143 v146 hx147) ?_
   simp only [qjb,qi,kq,za,q8,B0,reduceIte,a8]
   refine q9 (t:=(!v146)) (fun hc149=>?_) (fun hc149=>?_)
   ·rw [iteT hc149] at hF148
    simp only [qf,qe,qg,qa,zc,B0,reduceIte,a8]
    have e150:=qj hF148
    subst e150
    have ho151:=hr91 _ rfl
    have hk152:=hk89
    rw [ho151] at hk152
    dsimp only [jnO] at hk152
    apply hR95
    obtain ⟨c153,hv154,hS155⟩:=a1h (c:=c114) (os:=c122++(c126)) hv117 rfl hx112 zt (Peer.RI (x:=x111) hv123 hv127) (a1f (c1:=c122) (c2:=c126)
      (s9 (s9 (s9 hS136))))
    have hv156:=a1e hv154
    have he:=qj hk152
    subst he
    simp only [zr,B0,reduceIte,a8]
    exact ⟨c153,d9,by first | trivial | rfl,hv156,e8,(s9 (t6 (s9 hS155)))⟩
   rw [iteF hc149] at hF148
   simp only [zd,q8r,qe,f106,qg,qo,qb,o7,o8,o9,qn,ql,B0,reduceIte,a8]
   refine qd (v := .int .i64 x111.Term) rfl ?_
   simp only [qnj,qb,qog,qg,qa,qm,B0,reduceIte,a8]
   obtain ⟨c157,hv158,hS159⟩:=a1h (c:=c114) (os:=c122++(c126)) hv117 rfl hx112 zt (Peer.RI (x:=x111) hv123 hv127) (a1f (c1:=c122) (c2:=c126)
     (s9 (s9 (s9 hS136))))
   have hv160:=a1e hv158
   have e161:=qj hF148
   exact hN93 _ _ _ e161.symm ⟨c157,f101,f102,f103,f104,f105,rfl,f107,hv160,(s9 (t6 (s9 hS159)))⟩ (f109) (f110)
  rw [iteF hc139] at hF138
  simp only [zd,qm,B0,reduceIte,a8]
  obtain ⟨c162,hv163,hS164⟩:=a1h (c:=c114) (os:=c122++(c126)) hv117 rfl hx112 zt (Peer.RI (x:=x111) hv123 hv127) (a1f (c1:=c122) (c2:=c126) (s9
    (s9 (s9 hS136))))
  have hv165:=a1e hv163
  have e166:=qj hF138
  exact hN93 _ _ _ e166.symm ⟨c162,f101,f102,f103,f104,f105,f106,f107,hv165,(s9 (t6 (s9 hS164)))⟩ (f109) (f110)
 rintro ⟨s168,s169⟩ fr172 h173 rfl ⟨c170,f175,f176,f177,f178,f179,f180,f181,hv171,hS174⟩
 dsimp only [jnO] at hk89
 dsimp only at *
 unfold uv at hk89
 simp only [qva,qf,qe,f180,qg,qx,qb,ku,qa,q8,B0,reduceIte,a8]
 refine q9 (t:=(decide (s168=100))) (fun hc182=>?_) (fun hc182=>?_)
 ·rw [iteT hc182] at hk89
  simp only [qf,qe,qg,qa,zc,B0,reduceIte,a8]
  have he:=qj hk89
  subst he
  simp only [zr,B0,reduceIte,a8]
  exact ⟨c170,d9,by first | trivial | rfl,hv171,e8,(s9 (s9 (s9 hS174)))⟩
 rw [iteF hc182] at hk89
 simp only [zd,q0j,qf,qe,f175,qg,wb,qb,zv,qo,o7,o8,o9,qv,ql,B0,reduceIte,
   a8]
 refine qd (v:=d6) ((ja (a0g _ _ _ hS174)).trans rfl) ?_
 simp only [zq,qb,SlN.len hv171,qg,qa,B0,reduceIte,a8]
 obtain ⟨oc191,hX193,hk194⟩:=kd hk89
 simp only [qs3]
 refine qas (σ:=(List Peer)) (fun i189 s264=>uy d8 a9 i9 s168 i189 s264) (fun s fr' h'=>∃ c187,
   fr' 0 = .ptr pb0 0∧fr' 1 = .int .i64 a9∧fr' 2 = .int .i64 i9∧fr' 7 = .int .i64
   (p9 d8.Peers:Int)∧fr' 8=lst cI v69∧fr' 9 = .int .i64 s168∧SlN Peer.R 5 43 d6 s c187∧Sep h' lo ([Blk1 pb0 [d6,
   d7] 29]++(c187++(d9++(S0))))) hX193 ⟨c170,f175,f176,f177,f178,f179,f180,hv171,(s9 (s9 (s9 hS174)))⟩ (by simp only [B0,reduceIte,
   a8]) (by simp only [B0,reduceIte,a8]) (fun _ _ _ h=>h) rfl rfl (fun _ _ _ _ h=>h) (fun _ _ _ _ h=>h) (fun _ _ _ _ h=>h) (by decide) ?_ ?_
 ·rintro i189 s186 fr203 h204 hx212 ⟨c187,f206,f207,f208,f209,f210,f211,hv188,hS205⟩ f213 f214 oc192 hF195 hr196 Q197 hN198 hB202 hK199 hR200 hE201
  unfold uy at hF195
  obtain ⟨hp215,hF216⟩:=qa2 hF195
  simp only [qwe,qf,qe,f213,qg,qa,qxx,f208,qx,qb,uq (n:=(i189:Int)) hp215,qfl,ku,qw3,q8,B0,
    reduceIte,a8]
  refine q9 (t:=(decide ((z8 .i64 (jo .i64 i9 (i189:Int)) 1)=1))) (fun hc217=>?_) (fun hc217=>?_)
  ·rw [iteT hc217] at hF216
   simp only [qsv,qf,qe,f206,qg,wb,qb,zv,qo,o7,o8,o9,qv,ql,B0,reduceIte,
     a8]
   refine qd (v:=d6) ((ja (a0g _ _ _ hS205)).trans rfl) ?_
   obtain ⟨x218,hx219,hF220⟩:=qk hF216
   simp only [qg,jj,B0,reduceIte,a8]
   refine qd (SlN.ia hv188 hb53 hx219) ?_
   obtain ⟨c223,cs224,os225,hv226,hR227,hS228⟩:=a2d (a2f hv188 hb53 Peer.RO.len) hx219 zt Peer.RO.len (t6 hS205)
   obtain ⟨v230,c231,v234,c235,hv232,hv236,rfl,rfl⟩:=hR227
   have hS229:=a2j hS228
   simp only [qg,qa,qso,qf,qe,f211,qx,qb,ur,wb,zv,qo,o7,o8,o9,qv,
     zh,B0,reduceIte,a8]
   refine uh (n:=5) (us:=[.int .i64 (r8 .i64 (s168+1))]) (cs:=[.int .i64 x218.Term,.bool x218.Leads,v230,.int .i64 x218.Commit,
     v234]) (o:=0) (cs':=[.int .i64 (r8 .i64 (s168+1)),.bool x218.Leads,v230,.int .i64 x218.Commit,
     v234]) rfl hv226 rfl hx219 hS229 hW rfl rfl (nle rfl) rfl (fun c238 h221 hv239 hS222=>?_)
   simp only [qa,q61,qf,qe,qg,f207,qx,qb,ku,wb,zv,qo,o7,o8,o9,qv,
     zh,B0,reduceIte,a8]
   refine uh (n:=5) (us:=[.bool (decide ((i189:Int)=a9))]) (cs:=[.int .i64 (r8 .i64 (s168+1)),.bool x218.Leads,v230,.int .i64 x218.Commit,
     v234]) (o:=1) (cs':=[.int .i64 (r8 .i64 (s168+1)),.bool (decide ((i189:Int)=a9)),v230,.int .i64 x218.Commit,
     v234]) rfl hv239 rfl hx219 hS222 hW rfl rfl (nle rfl) rfl (fun c242 h240 hv243 hS241=>?_)
   obtain ⟨l244,hx245,hF246⟩:=qk hF220
   simp only [qa,q7v,qe,qg,f209,qmm,B0,reduceIte,a8]
   refine qia (f:=cI) (z:=(0:Int)) hS241 hx245 rfl (fun v247 c248 h249 hv250 hS251=>?_)
   simp only [wb,qb,zv,qo,o7,o8,o9,qv,zh,B0,reduceIte,a8]
   refine uh (n:=5) (us:=[v247]) (cs:=[.int .i64 (r8 .i64 (s168+1)),.bool (decide ((i189:Int)=a9)),v230,.int .i64 x218.Commit,
     v234]) (o:=4) (cs':=[.int .i64 (r8 .i64 (s168+1)),.bool (decide ((i189:Int)=a9)),v230,.int .i64 x218.Commit,
     v247]) (jp (a01 hv250)) hv243 rfl hx219 (t6 hS251) hW rfl (qp (a01 hv250) zp) (nle rfl) rfl (fun c255 h253 hv256 hS254=>?_)
   simp only [qa,qm,B0,reduceIte,a8]
   obtain ⟨c257,hv258,hS259⟩:=SlG.cls (e':=(Peer.mk (r8 .i64 (s168+1)) (decide ((i189:Int)=a9)) x218.Log x218.Commit l244)) (c:=c255) (os:=c231 ++
     (c248)) hv256 rfl hx219 zt (Peer.RI (x:=(Peer.mk (r8 .i64 (s168+1)) (decide ((i189:Int)=a9)) x218.Log x218.Commit l244)) hv232 hv250) (a1f
     (c1:=c231) (c2:=c248) (s9 (s9 (t6 hS254))))
   have hx260:=kt (x':=(Peer.mk (r8 .i64 (s168+1)) (decide ((i189:Int)=a9)) x218.Log x218.Commit l244)) hx219
   have hv261:=a1e hv258
   have e262:=qj hF246
   exact hN198 _ _ _ e262.symm ⟨c257,f206,f207,f208,f209,f210,f211,hv261,(s9 (t6 (s9 (a0k (t6 hS259)))))⟩ (f213) (f214)
  rw [iteF hc217] at hF216
  simp only [zd,qm,B0,reduceIte,a8]
  have e263:=qj hF216
  exact hN198 _ _ _ e263.symm ⟨c187,f206,f207,f208,f209,f210,f211,hv188,(s9 (s9 (s9 hS205)))⟩ (f213) (f214)
 rintro s265 fr268 h269 rfl ⟨c266,f271,f272,f273,f274,f275,f276,hv267,hS270⟩
 dsimp only [jnO] at hk194
 unfold qd0 at hk194
 simp only [qvo,qf,qe,f271,qg,wb,qb,zv,qo,o7,o8,o9,qv,ql,B0,reduceIte,a8]
 refine qd (v:=d6) ((ja (a0g _ _ _ hS270)).trans rfl) ?_
 obtain ⟨x277,hx278,hF279⟩:=qk hk194
 simp only [f272,qg,jj,B0,reduceIte,a8]
 refine qd (SlN.ia hv267 hb53 hx278) ?_
 obtain ⟨c280,cs281,os282,hv283,hR284,hS285⟩:=a2d (a2f hv267 hb53 Peer.RO.len) hx278 zt Peer.RO.len (t6 hS270)
 obtain ⟨v287,c288,v291,c292,hv289,hv293,rfl,rfl⟩:=hR284
 have hS286:=a2j hS285
 simp only [qo,qb,o7,o8,o9,qv,ql,B0,reduceIte,a8]
 refine qd (v:=v291) ((a15 (o:=4) hv283 rfl hx278 hS286 (nle rfl)).trans rfl) ?_
 obtain ⟨x295,hx296,hF297⟩:=qk hF279
 simp only [f272,qg,f275,zq,qb,z7,jj,B0,reduceIte,a8]
 obtain ⟨b298,hb299⟩:=SlF.isrow hv293 (j7 hx296)
 refine qd (SlF.ia hv293 hb299 hx296) ?_
 simp only [zh,B0,reduceIte,a8]
 refine qje (f:=cI) (x':=(p9 v69:Int)) (o:=0) hv293 (s9 hS286) hW hb299 hx296 (fun _=>rfl) rfl rfl (nle rfl) rfl (fun c302 h300 hv303 hS301=>?_)
 have hx304:=kt (x':=(p9 v69:Int)) hx296
 simp only [qa,qf,qe,qg,zc,B0,reduceIte,a8]
 obtain ⟨c305,hv306,hS307⟩:=SlG.cls (e':=(Peer.mk x277.Term x277.Leads x277.Log x277.Commit (a1b x277.Match a9.toNat (p9 v69:Int)))) (c:=c280)
   (os:=c288++(c302)) hv283 rfl hx278 zt (Peer.RI (x:=(Peer.mk x277.Term x277.Leads x277.Log x277.Commit (a1b x277.Match a9.toNat
   (p9 v69:Int)))) hv289 hv303) (a1f (c1:=c288) (c2:=c302) (s9 (s9 hS301)))
 have hx308:=kt (x':=(Peer.mk x277.Term x277.Leads x277.Log x277.Commit (a1b x277.Match a9.toNat (p9 v69:Int)))) hx278
 have hv309:=a1e hv306
 have he:=qj hF297
 subst he
 simp only [zr,B0,reduceIte,a8]
 exact ⟨c305,d9,by first | trivial | rfl,hv309,e8,(s9 (t6 (s9 hS307)))⟩
end Go.Proofs.Ytanblnjomhgphaa.X
