/- The functions' code comes to what the plain functions say (4). -/
import Derived.Test.YtpddolihbnfahaaXCH3
set_option linter.unusedVariables false
set_option linter.unusedSimpArgs false
set_option maxRecDepth 100000
namespace Go.Proofs.Ytpddolihbnfahaa.X
open Go
open Nat (reduceEqDiff)
theorem qf2 {W:Nat→Bool}{h:Heap}{lo:Nat→Prop}{S0:List Obj} (hW:∀ b,
  lo b→W b=true) (k:Nat) (pb0:Nat) (c_0:L1Cur) (r:(List Int) × L1Cur) (hF:qbe k c_0=some r) (hS:Sep h lo ([Blk1 pb0 [lst cU8 c_0.code,
  .int .i64 c_0.at_,.int .u64 c_0.seed] 87]++(S0))) : Ret E W 90 [.ptr pb0 0] h (fun v h'=>∃ rv0 rc0,
  v=rv0∧SlF cI 1 3 rv0 r.1 rc0∧Sep h' lo (rc0++([Blk1 pb0 [lst cU8 r.2.code,.int .i64 r.2.at_,.int .u64 r.2.seed] 87]++(S0)))):=by
 refine Ret.of (fn:=x90) rfl (Run.of ?_)
 unfold qbe at hF
 have zf0:zh [.ptr pb0 0] 0 = .ptr pb0 0:=rfl
 generalize zh [.ptr pb0 0]=fr0 at zf0 ⊢
 obtain ⟨v1,hx2,hF3⟩:=qj hF
 simp only [x90,qg,qf,qd,qa,qya,qtl,zf0,qv,B0,reduceIte,reduceEqDiff]
 refine kg rfl (kw hW pb0 c_0 3 v1 hx2 hS) ?_
 rintro _ h4 ⟨rfl,hS5⟩
 obtain ⟨v6,hx7,hF8⟩:=qj hF3
 simp only [qd,qa,qsa,qg,qf,zf0,qv,B0,reduceIte,reduceEqDiff]
 refine kg rfl (kw hW pb0 v1.2 10 v6 hx7 hS5) ?_
 rintro _ h9 ⟨rfl,hS10⟩
 obtain ⟨v11,hx12,hF13⟩:=qj hF8
 simp only [qd,qa,qtb,qg,qf,zf0,qv,B0,reduceIte,reduceEqDiff]
 refine kg rfl (qeg hW pb0 v6.2 20 v11 hx12 hS10) ?_
 rintro _ h14 ⟨rfl,hS15⟩
 simp only [qa,q4d,ze,B0,reduceIte,reduceEqDiff]
 obtain ⟨sv21,hX19,hk20⟩:=qj hF13
 refine uq (t:=v11.1) (fun fr' h'=>fr' 0 = .ptr pb0 0∧fr' 3 = .nil∧fr' 4 = .int .i64 v1.1∧fr' 5 = .int .i64 sv21.1∧Sep h' lo ([Blk1 pb0 [lst cU8 sv21.2.code,
   .int .i64 sv21.2.at_,.int .u64 sv21.2.seed] 87]++(S0))) (fun Q22 hN23 hR24 hE25=>⟨fun hc26=>?_,fun hc26=>?_⟩) ?_
 ·rw [iteT hc26] at hX19
  obtain ⟨v27,hx28,hF29⟩:=qj hX19
  simp only [qz6,qf,zf0,qd,qv,B0,reduceIte,reduceEqDiff]
  refine kg rfl (kw hW pb0 v11.2 2 v27 hx28 hS15) ?_
  rintro _ h30 ⟨rfl,hS31⟩
  simp only [qx,qb,qam,qd,qa,qn,B0,reduceIte,reduceEqDiff]
  have e32:=qk hF29
  subst e32
  exact hN23 _ _ ⟨zf0,rfl,rfl,rfl,hS31⟩
 ·rw [iteF hc26] at hX19
  simp only [zi,qn,B0,reduceIte,reduceEqDiff]
  have e33:=qk hX19
  subst e33
  exact hN23 _ _ ⟨zf0,rfl,rfl,rfl,hS15⟩
 rintro fr34 h35 ⟨f37,f38,f39,f40,hS36⟩
 obtain ⟨s16,s17⟩:=sv21
 dsimp only at *
 unfold qdk at hk20
 simp only [qux,qg,B0,reduceIte,reduceEqDiff]
 obtain ⟨oc59,hX61,hk62⟩:=kn hk20
 simp only [q2r]
 refine qg4 (σ:=(List Int) × Int × Int × L1Cur) (fun s110=>qaf s110.1 s110.2.1 s110.2.2.1 s110.2.2.2) (fun s fr' h'=>∃ v51 c52,
   fr' 0 = .ptr pb0 0∧fr' 3=v51∧fr' 4 = .int .i64 s.2.1∧fr' 5 = .int .i64 s.2.2.1∧SlF cI 1 3 v51 s.1 c52∧Sep h' lo ([Blk1 pb0 [lst cU8 s.2.2.2.code,
   .int .i64 s.2.2.2.at_,.int .u64 s.2.2.2.seed] 87]++(c52++(S0)))) hX61 ⟨.nil,[],f37,f38,f39,f40,SlF.nil,(hS36:Sep _ lo ([Blk1 pb0 [lst cU8 s17.code,
   .int .i64 s17.at_,.int .u64 s17.seed] 87]++(S0)))⟩ (fun _ _ _ h=>h) ?_ ?_
 ·rintro ⟨s49,s54,s55,s56⟩ fr71 h72 ⟨v51,c52,f74,f75,f76,f77,hv53,hS73⟩ oc60 hF63 hr64 Q65 hN66 hK67 hR68 hE69
  dsimp only at *
  unfold qaf at hF63
  simp only [q6x,qg,qf,f77,qd,qx,qb,xb,qa,ze,B0,reduceIte,reduceEqDiff]
  refine zf (t:=(decide ((0:Int)<s55))) (fun hc79=>?_) (fun hc79=>?_)
  ·rw [iteT hc79] at hF63
   simp only [zi,q6t,qg,qaa,q0b,qf,f75,qd,f76,j8,evp,B0,reduceIte,reduceEqDiff]
   refine jy (n:=1) (f:=cI) [s54] hS73 rfl rfl (fun v80 c81 h82 hv83 hS84=>?_)
   simp only [wu,B0,reduceIte,reduceEqDiff]
   obtain ⟨l86,hx87,hF88⟩:=qj hF63
   refine yx (f:=cI) hv53 (Sep.m2 hS84) hW (fun _=>rfl) (fun _=>rfl) (SlF.first hv83 hS84 (fun _=>rfl)) hx87 (fun v89 c90 h91 hv92 hS93=>?_)
   simp only [qd,qa,q2t,qf,f76,f74,j8,evp,B0,reduceIte,reduceEqDiff]
   refine jy (n:=1) (f:=cI) [0,0,0,1,2] hS93 rfl rfl (fun v95 c96 h97 hv98 hS99=>?_)
   obtain ⟨v101,hx102,hF103⟩:=qj hF88
   simp only [qv,B0,reduceIte,reduceEqDiff]
   refine kg rfl (qfi hW pb0 s56 v95 c96 [0,0,0,1,2] hv98 v101 hx102 (Sep.m3 hS99)) ?_
   rintro _ h106 ⟨c104,rfl,hv105,hS107⟩
   simp only [qx,qb,qam,qd,qa,um,qf,f77,qbd,qn,B0,reduceIte,reduceEqDiff]
   have e108:=qk hF103
   exact hN66 _ _ _ e108.symm ⟨v89,c90,f74,rfl,rfl,rfl,hv92,(Sep.m1 (Sep.m1 (Sep.dc (Sep.m2 (Sep.dc (Sep.m1 hS107))))))⟩
  rw [iteF hc79] at hF63
  simp only [qdz,qc9,qe4,B0,reduceIte,reduceEqDiff]
  have e109:=qk hF63
  exact hK67 _ _ _ e109.symm ⟨v51,c52,f74,f75,f76,f77,hv53,(Sep.m1 (Sep.m1 hS73))⟩
 rintro ⟨s111,s116,s117,s118⟩ fr119 h120 rfl ⟨v113,c114,f122,f123,f124,f125,hv115,hS121⟩
 dsimp only [jnO] at hk62
 dsimp only at *
 unfold qdn at hk62
 simp only [qxh,qg,qf,f123,qd,zr,qb,SlF.plen hv115,qx,xb,B0,reduceIte,reduceEqDiff]
 obtain ⟨sv131,hX129,hk130⟩:=qj hk62
 refine z7 3 (fun fr' h'=>fr' 0 = .ptr pb0 0∧fr' 3=v113∧fr' 34 = .bool sv131.1∧Sep h' lo ([Blk1 pb0 [lst cU8 sv131.2.code,.int .i64 sv131.2.at_,
   .int .u64 sv131.2.seed] 87]++(c114++(S0)))) (fun Q132 hN133=>?_) ?_
 ·simp only [List.take_succ_cons,List.take_zero]
  simp only [qc (g:=31),B0,reduceIte,reduceEqDiff]
  refine qy (t:=(decide ((0:Int)<(List.length s111:Int)))) (fun hg136=>?_) (fun hg136=>?_)
  ·rw [iteT hg136] at hX129
   obtain ⟨v137,hx138,hF139⟩:=qj hX129
   simp only [hg136,qc (g:=31),zg,f122,qd,qv,B0,reduceIte,reduceEqDiff]
   refine kg rfl (qeg hW pb0 s118 20 v137 hx138 hS121) ?_
   rintro _ h140 ⟨rfl,hS141⟩
   simp only [hg136,qs,qb,zj,qa,qn,B0,reduceIte,reduceEqDiff]
   have e142:=qk hF139
   subst e142
   exact hN133 _ _ ⟨f122,f123,rfl,(Sep.m1 (Sep.m1 hS141))⟩
  ·rw [iteF hg136] at hX129
   simp only [hg136,qc (g:=31),jl,qs,qb,zk,qa,qn,B0,reduceIte,reduceEqDiff]
   have e143:=qk hX129
   subst e143
   exact hN133 _ _ ⟨f122,f123,rfl,(Sep.m1 (Sep.m1 hS121))⟩
 rintro fr144 h145 ⟨f147,f148,f149,hS146⟩
 obtain ⟨s126,s127⟩:=sv131
 dsimp only at *
 unfold qdm at hk130
 simp only [List.drop_succ_cons,List.drop_zero]
 simp only [qa,q51,f149,ze,B0,reduceIte,reduceEqDiff]
 refine zf (t:=s126) (fun hc150=>?_) (fun hc150=>?_)
 ·rw [iteT hc150] at hk130
  obtain ⟨v151,hx152,hF153⟩:=qj hk130
  simp only [q4t,qf,f148,qd,f147,zr,qb,SlF.plen hv115,qv,B0,reduceIte,reduceEqDiff]
  refine kg rfl (kw hW pb0 s127 (List.length s111:Int) v151 hx152 hS146) ?_
  rintro _ h154 ⟨rfl,hS155⟩
  simp only [f147,qd,j8,evp,B0,reduceIte,reduceEqDiff]
  refine jy (n:=1) (f:=cI) [(-1),0,100,101] hS155 rfl rfl (fun v156 c157 h158 hv159 hS160=>?_)
  obtain ⟨v162,hx163,hF164⟩:=qj hF153
  simp only [qv,B0,reduceIte,reduceEqDiff]
  refine kg rfl (qfi hW pb0 v151.2 v156 c157 [(-1),0,100,101] hv159 v162 hx163 (Sep.m1 hS160)) ?_
  rintro _ h167 ⟨c165,rfl,hv166,hS168⟩
  obtain ⟨x169,hx170,hF171⟩:=qj hF164
  simp only [jr,B0,reduceIte,reduceEqDiff]
  obtain ⟨b172,hb173⟩:=SlF.isrow hv115 (wg hx170)
  refine qh (SlF.ia hv115 hb173 hx170) ?_
  simp only [zl,B0,reduceIte,reduceEqDiff]
  refine qzm (f:=cI) (x':=v162.1) (o:=0) hv115 (Sep.m2 hS168) hW hb173 hx170 (fun _=>rfl) rfl rfl (nle rfl) rfl (fun c176 h174 hv177 hS175=>?_)
  have hx178:=wq (x':=v162.1) hx170
  simp only [qa,qg,qf,f148,qd,za,B0,reduceIte,reduceEqDiff]
  have he:=qk hF171
  subst he
  simp only [zp,B0,reduceIte,reduceEqDiff]
  exact ⟨v113,c176,by first | trivial | rfl,hv177,(Sep.m1 (Sep.m1 (Sep.dc (Sep.m2 hS175))))⟩
 rw [iteF hc150] at hk130
 simp only [zi,qg,qf,f148,qd,qa,za,B0,reduceIte,reduceEqDiff]
 have he:=qk hk130
 subst he
 simp only [zp,B0,reduceIte,reduceEqDiff]
 exact ⟨v113,c114,by first | trivial | rfl,hv115,(Sep.m1 hS146)⟩
theorem qjv {W:Nat→Bool}{h:Heap}{lo:Nat→Prop}{S0:List Obj} (hW:∀ b,
  lo b→W b=true) (k:Nat) (pb0:Nat) (c_0:L1Cur) (r:(List (List Int)) × L1Cur) (hF:qc8 k c_0=some r) (hS:Sep h lo ([Blk1 pb0 [lst cU8 c_0.code,
  .int .i64 c_0.at_,.int .u64 c_0.seed] 87]++(S0))) : Ret E W 47 [.ptr pb0 0] h (fun v h'=>∃ rv0 rc0,
  v=rv0∧SlN RL44 1 44 rv0 r.1 rc0∧Sep h' lo (rc0++([Blk1 pb0 [lst cU8 r.2.code,.int .i64 r.2.at_,.int .u64 r.2.seed] 87]++(S0)))):=by
 refine Ret.of (fn:=x47) rfl (Run.of ?_)
 unfold qc8 at hF
 have zf0:zh [.ptr pb0 0] 0 = .ptr pb0 0:=rfl
 generalize zh [.ptr pb0 0]=fr0 at zf0 ⊢
 obtain ⟨v1,hx2,hF3⟩:=qj hF
 simp only [x47,qg,qf,qd,qa,qsn,qv5,zf0,qv,B0,reduceIte,reduceEqDiff]
 refine kg rfl (kw hW pb0 c_0 5 v1 hx2 hS) ?_
 rintro _ h4 ⟨rfl,hS5⟩
 simp only [qx,qb,qam,qd,qa,B0,reduceIte,reduceEqDiff]
 obtain ⟨oc22,hX24,hk25⟩:=kn hF3
 simp only [q0s]
 refine qg4 (σ:=(List (List Int)) × Int × L1Cur) (fun s119=>qan k s119.1 s119.2.1 s119.2.2) (fun s fr' h'=>∃ v15 c16,
   fr' 0 = .ptr pb0 0∧fr' 3=v15∧fr' 4 = .int .i64 s.2.1∧SlN RL44 1 44 v15 s.1 c16∧Sep h' lo ([Blk1 pb0 [lst cU8 s.2.2.code,.int .i64 s.2.2.at_,
   .int .u64 s.2.2.seed] 87]++(c16++(S0)))) hX24 ⟨.nil,[],zf0,rfl,rfl,SlN.nil,(hS5:Sep _ lo ([Blk1 pb0 [lst cU8 v1.2.code,.int .i64 v1.2.at_,
   .int .u64 v1.2.seed] 87]++(S0)))⟩ (fun _ _ _ h=>h) ?_ ?_
 ·rintro ⟨s13,s18,s19⟩ fr34 h35 ⟨v15,c16,f37,f38,f39,hv17,hS36⟩ oc23 hF26 hr27 Q28 hN29 hK30 hR31 hE32
  dsimp only at *
  unfold qan at hF26
  simp only [q2c,qg,qf,f39,qd,qx,qb,xb,qa,ze,B0,reduceIte,reduceEqDiff]
  refine zf (t:=(decide ((0:Int)<s18))) (fun hc41=>?_) (fun hc41=>?_)
  ·rw [iteT hc41] at hF26
   obtain ⟨v42,hx43,hF44⟩:=qj hF26
   simp only [zi,q5d,qg,qaa,q6z,qf,f37,qd,qv,B0,reduceIte,reduceEqDiff]
   refine kg rfl (qf2 hW k pb0 s19 v42 hx43 hS36) ?_
   rintro v45 h49 ⟨_,c46,rfl,hv47,hS50⟩
   obtain ⟨v51,hx52,hF53⟩:=qj hF44
   simp only [qd,qa,q1a,qg,qf,qv,B0,reduceIte,reduceEqDiff]
   refine je rfl (qm (SlF.snap hv47 hS50 rfl (fun _=>rfl) (fun _=>rfl)) qz) (xn (fun b hb=>decide_eq_true hb) v42.1 v51 hx52) ?_
   simp only [jj,qb,j9,qd,B0,reduceIte,reduceEqDiff]
   obtain ⟨v57,hx58,hF59⟩:=qj hF53
   refine z7 4 (fun fr' h'=>Sep h' lo ([Blk1 pb0 [lst cU8 v42.2.code,.int .i64 v42.2.at_,
     .int .u64 v42.2.seed] 87]++(c16++(c46++(S0))))∧fr' 22 = .bool v57∧fr' 0 = .ptr pb0 0∧fr' 3=v15∧fr' 4 = .int .i64 s18∧fr' 5=v45)
     (fun Q54 hN55=>?_) ?_
   ·simp only [List.take_succ_cons,List.take_zero]
    simp only [qc (g:=18),B0,reduceIte,reduceEqDiff]
    refine qy (t:=(!v51)) (fun hg56=>?_) (fun hg56=>?_)
    ·rw [iteT hg56] at hx58
     simp only [hg56,qc (g:=18),zq,qs,qb,zj,qa,qn,B0,reduceIte,reduceEqDiff]
     have e60:=qk hx58
     exact hN55 _ _ ⟨(Sep.m2 (Sep.m2 hS50)),by rw [←e60]; simp only [B0,reduceIte,reduceEqDiff],f37,f38,f39,rfl⟩
    ·rw [iteF hg56] at hx58
     obtain ⟨v61,hx62,hF63⟩:=qj hx58
     simp only [hg56,qc (g:=18),qp,qd,qv,B0,reduceIte,reduceEqDiff]
     refine je rfl (qm (SlF.snap hv47 hS50 rfl (fun _=>rfl) (fun _=>rfl)) qz) (qaq (fun b hb=>decide_eq_true hb) v42.1 v61 hx62) ?_
     simp only [hg56,qc (g:=18),qp,qx,qb,xb,qs,zk,qa,qn,B0,reduceIte,reduceEqDiff]
     have e64:=qk hF63
     exact hN55 _ _ ⟨(Sep.m2 (Sep.m2 hS50)),by rw [←e64]; simp only [B0,reduceIte,reduceEqDiff],f37,f38,f39,rfl⟩
   rintro fr65 h71 ⟨hS72,f66,f67,f68,f69,f70⟩
   simp only [List.drop_succ_cons,List.drop_zero]
   simp only [qa,q3i,f66,ze,B0,reduceIte,reduceEqDiff]
   obtain ⟨s73,hX79,hk80⟩:=qj hF59
   refine uq (t:=v57) (fun fr' h'=>∃ v75 c76,
     fr' 0 = .ptr pb0 0∧fr' 3=v15∧fr' 4 = .int .i64 s18∧fr' 5=v75∧SlF cI 1 3 v75 s73 c76∧Sep h' lo ([Blk1 pb0 [lst cU8 v42.2.code,.int .i64 v42.2.at_,
     .int .u64 v42.2.seed] 87]++(c16++(c76++(S0))))) (fun Q81 hN82 hR83 hE84=>⟨fun hc85=>?_,fun hc85=>?_⟩) ?_
   ·rw [iteT hc85] at hX79
    simp only [qf,j8,evp,B0,reduceIte,reduceEqDiff]
    refine jy (n:=1) (f:=cI) [1,2] hS72 rfl rfl (fun v86 c87 h88 hv89 hS90=>?_)
    simp only [qd,qa,qn,B0,reduceIte,reduceEqDiff]
    have e92:=qk hX79
    subst e92
    exact hN82 _ _ ⟨v86,c87,f67,f68,f69,rfl,hv89,(Sep.m2 (Sep.m2 (Sep.dc (Sep.m3 hS90))))⟩
   ·rw [iteF hc85] at hX79
    simp only [zi,qn,B0,reduceIte,reduceEqDiff]
    have e93:=qk hX79
    subst e93
    exact hN82 _ _ ⟨v45,c46,f67,f68,f69,f70,hv47,(Sep.m2 (Sep.m2 (Sep.m2 hS72)))⟩
   rintro fr94 h95 ⟨v75,c76,f97,f98,f99,f100,hv77,hS96⟩
   unfold qde at hk80
   simp only [q0z,qf,f98,qd,f100,j8,evp,B0,reduceIte,reduceEqDiff]
   refine qfd (R:=RL44) (n:=1) (cs:=[v75]) (os:=c76) (Sep.m2 hS96) (qaj (us:=[v75]) (vs:=[v75]) (js (SlF.one hv77)) rfl (nle rfl) (qq
     (SlF.one hv77) zo) rfl qfr) (RL44I (x:=s73) hv77) rfl (fun v101 c102 h103 hv104 hS105=>?_)
   simp only [wu,B0,reduceIte,reduceEqDiff]
   obtain ⟨l107,hx108,hF109⟩:=qj hk80
   refine qhv (R:=RL44) (c:=c16) hv17 hv104 (Sep.m2 hS105) hW RL44O.len RL44O.one hx108 (fun v110 c111 h112 hv113 hS114=>?_)
   simp only [qd,qa,um,qf,f99,qx,qb,qbd,qn,B0,reduceIte,reduceEqDiff]
   have e116:=qk hF109
   exact hN29 _ _ _ e116.symm ⟨v110,c111,f97,rfl,rfl,hv113,(Sep.m1 hS114)⟩
  rw [iteF hc41] at hF26
  simp only [qdz,qc9,qe4,B0,reduceIte,reduceEqDiff]
  have e118:=qk hF26
  exact hK30 _ _ _ e118.symm ⟨v15,c16,f37,f38,f39,hv17,(Sep.m1 (Sep.m1 hS36))⟩
 rintro ⟨s120,s125,s126⟩ fr127 h128 rfl ⟨v122,c123,f130,f131,f132,hv124,hS129⟩
 dsimp only [jnO] at hk25
 dsimp only at *
 unfold qdd at hk25
 obtain ⟨v133,hx134,hF135⟩:=qj hk25
 simp only [qto,qg,qf,f130,qd,qv,B0,reduceIte,reduceEqDiff]
 refine kg rfl (qeg hW pb0 s126 30 v133 hx134 hS129) ?_
 rintro _ h136 ⟨rfl,hS137⟩
 simp only [qa,qw7,ze,B0,reduceIte,reduceEqDiff]
 refine zf (t:=v133.1) (fun hc138=>?_) (fun hc138=>?_)
 ·rw [iteT hc138] at hF135
  simp only [q5g,qf,f131,qd,j8,evp,B0,reduceIte,reduceEqDiff]
  refine jy (n:=1) (f:=cI) [11] hS137 rfl rfl (fun v139 c140 h141 hv142 hS143=>?_)
  obtain ⟨x145,hx146,hF147⟩:=qj hF135
  simp only [jr,B0,reduceIte,reduceEqDiff]
  obtain ⟨b148,hb149⟩:=SlN.isrow hv124 (wg hx146)
  refine qh (SlN.ia hv124 hb149 hx146) ?_
  obtain ⟨c152,cs153,os154,hv155,hR156,hS157⟩:=SlG.opn (SlN.toG hv124 hb149 RL44O.len) hx146 ju RL44O.len (Sep.m2 hS143)
  obtain ⟨v159,c160,hv161,rfl,rfl⟩:=hR156
  have hS158:=Sep.no1 hS157
  simp only [zl,B0,reduceIte,reduceEqDiff]
  refine y7 (n:=1) (us:=[v139]) (cs:=[v159]) (o:=0) (cs':=[v139]) (js (SlF.one hv142)) hv155 rfl hx146 hS158 hW rfl (qq (SlF.one hv142) zo)
    (nle rfl) rfl (fun c163 h150 hv164 hS151=>?_)
  simp only [qa,qg,qf,f131,qd,za,B0,reduceIte,reduceEqDiff]
  obtain ⟨c165,hv166,hS167⟩:=SlG.cls (e':=[11]) (c:=c163) (os:=c140) hv164 rfl hx146 ju (RL44I (x:=[11]) hv142) (Sep.m1 (Sep.m2 hS151))
  have hx168:=wq (x':=[11]) hx146
  have hv169:=SlG.toN hv166
  have he:=qk hF147
  subst he
  simp only [zp,B0,reduceIte,reduceEqDiff]
  exact ⟨v122,c165,by first | trivial | rfl,hv169,(Sep.m1 (Sep.m1 (Sep.dc (Sep.m1 hS167))))⟩
 rw [iteF hc138] at hF135
 simp only [zi,qg,qf,f131,qd,qa,za,B0,reduceIte,reduceEqDiff]
 have he:=qk hF135
 subst he
 simp only [zp,B0,reduceIte,reduceEqDiff]
 exact ⟨v122,c123,by first | trivial | rfl,hv124,(Sep.m1 hS137)⟩
theorem qfn {W:Nat→Bool}{h:Heap}{lo:Nat→Prop}{S0:List Obj} (hW:∀ b,
  lo b→W b=true) (k:Nat) (pb0:Nat) (c_0:L1Cur) (r:Election × L1Cur) (hF:qas k c_0=some r) (hS:Sep h lo ([Blk1 pb0 [lst cU8 c_0.code,
  .int .i64 c_0.at_,.int .u64 c_0.seed] 87]++(S0))) : Ret E W 59 [.ptr pb0 0] h (fun v h'=>∃ rv0_0 rc0_0 rv0_1 rc0_1 rv0_2 rc0_2,v = .agg [rv0_0,rv0_1,
  rv0_2]∧SlN Server.R 6 46 rv0_0 r.1.Servers rc0_0∧SlF qe 7 93 rv0_1 r.1.Post rc0_1∧SlF ql 2 39 rv0_2 r.1.Led rc0_2∧Sep h' lo (rc0_0++(rc0_1 ++
  (rc0_2++([Blk1 pb0 [lst cU8 r.2.code,.int .i64 r.2.at_,.int .u64 r.2.seed] 87]++(S0)))))):=by
 refine Ret.of (fn:=x59) rfl (Run.of ?_)
 unfold qas at hF
 have zf0:zh [.ptr pb0 0] 0 = .ptr pb0 0:=rfl
 generalize zh [.ptr pb0 0]=fr0 at zf0 ⊢
 simp only [x59,qg,qf,jg,B0,reduceIte,reduceEqDiff]
 refine zw hS (fun b1 h2 hS3=>?_)
 obtain ⟨v5,hx6,hF7⟩:=qj hF
 simp only [qa,qxn,qg,qf,zf0,qd,qv,B0,reduceIte,reduceEqDiff]
 refine kg rfl (qgx hW k pb0 c_0 v5 hx6 (Sep.m1 hS3)) ?_
 rintro v8 h12 ⟨_,c9,rfl,hv10,hS13⟩
 simp only [qd,qa,qv8,qg,qf,zr,qb,SlF.plen hv10,qx,xb,q25,ze,B0,reduceIte,reduceEqDiff]
 obtain ⟨s14,hX20,hk21⟩:=qj hF7
 refine uq (t:=(decide ((80:Int)<(List.length v5.1:Int)))) (fun fr' h'=>∃ v16 c17,
   fr' 0 = .ptr pb0 0∧fr' 2 = .ptr b1 0∧fr' 3=v16∧SlF kj 2 49 v16 s14 c17∧Sep h' lo ([Blk1 pb0 [lst cU8 v5.2.code,.int .i64 v5.2.at_,
   .int .u64 v5.2.seed] 87]++([Blk1 b1 [.nil,.nil,.nil] 31]++(c17++(S0))))) (fun Q22 hN23 hR24 hE25=>⟨fun hc26=>?_,fun hc26=>?_⟩) ?_
 ·rw [iteT hc26] at hX20
  obtain ⟨l27,hx28,hF29⟩:=qj hX20
  simp only [qf,qd,qg7,Option.map_some,Option.map_none,B0,reduceIte,reduceEqDiff]
  obtain ⟨v30,he31,hv32⟩:=SlF.trunc (f1:=kj) hv10 hx28 (fun _=>rfl) hS13
  refine qh he31 ?_
  simp only [qd,qa,qn,B0,reduceIte,reduceEqDiff]
  have e34:=qk hF29
  subst e34
  exact hN23 _ _ ⟨v30,c9,zf0,rfl,rfl,hv32,(Sep.m2 (Sep.m2 hS13))⟩
 ·rw [iteF hc26] at hX20
  simp only [zi,qn,B0,reduceIte,reduceEqDiff]
  have e35:=qk hX20
  subst e35
  exact hN23 _ _ ⟨v8,c9,zf0,rfl,rfl,hv10,(Sep.m2 (Sep.m2 hS13))⟩
 rintro fr36 h37 ⟨v16,c17,f39,f40,f41,hv18,hS38⟩
 unfold qc1 at hk21
 obtain ⟨v42,hx43,hF44⟩:=qj hk21
 simp only [qvu,qg,qf,f39,qd,qv,B0,reduceIte,reduceEqDiff]
 refine kg rfl (qjv hW k pb0 v5.2 v42 hx43 hS38) ?_
 rintro v45 h49 ⟨_,c46,rfl,hv47,hS50⟩
 obtain ⟨v51,hx52,hF53⟩:=qj hF44
 simp only [f41,qd,qv,B0,reduceIte,reduceEqDiff]
 refine qb7 rfl hS50 (qm (SlN.snap hv47 _ hS50 rfl RL44O) (qm (SlF.snap hv18 (Sep.m3 hS50) rfl (fun _=>rfl) (fun _=>rfl)) qz)) (qjc
   (fun b hb=>decide_eq_true hb) k v42.1 s14 v51 hx52) ?_
 rintro _ h70 ⟨v54,c55,v58,c59,v62,c63,v66,c67,rfl,hv56,hv60,hv64,hv68,hS71⟩
 refine ⟨_,qcv (qq (qbw (qq (SlN.free1 hv56) (qq (SlF.free1 hv60) (qq (SlF.free1 hv64) zo)))) (qq (qij (SlF.free1 hv68)) (qq rfl zo))),hS71,
   (jq (SlN.pf hv56 Server.RO) (jq (SlF.pf hv60 (fun _=>rfl)) (jq (SlF.pf hv64 (fun _=>rfl)) (jq (SlF.pf hv68 (fun _=>rfl)) uf)))),fun h72 hS73=>?_⟩
 have hS74:Sep h72 lo (c55++(c59++(c63++(c67++(c46++([Blk1 pb0 [lst cU8 v42.2.code,.int .i64 v42.2.at_,.int .u64 v42.2.seed] 87]++([Blk1 b1 [.nil,.nil,
   .nil] 31]++(c17++(S0))))))))):=by simpa only [List.append_assoc,List.nil_append] using hS73
 simp only [qd,yu,qb,yz,yy,q8w,jg,B0,reduceIte,reduceEqDiff]
 refine zw hS74 (fun b75 h76 hS77=>?_)
 simp only [zl,B0,reduceIte,reduceEqDiff]
 refine q9 (us:=[v54,v58,v62]) rfl (cs':=[v54,v58,
   v62]) hS77 hW rfl (qq (SlN.one hv56) (qq (SlF.one hv60) (qq (SlF.one hv64) zo))) (nle rfl) rfl (fun h79 hS80=>?_)
 simp only [qd,qa,qww,qg,qf,jj,qb,j9,q2x,ze,B0,reduceIte,reduceEqDiff]
 obtain ⟨s81,hX95,hk96⟩:=qj hF53
 refine uq (t:=(!v51.2.2)) (fun fr' h'=>∃ v83 c84 v87 c88 v91 c92,
   fr' 0 = .ptr pb0 0∧fr' 2 = .ptr b1 0∧fr' 4 = .ptr b75 0∧SlN Server.R 6 46 v83 s81.Servers c84∧SlF qe 7 93 v87 s81.Post c88∧SlF ql 2 39 v91 s81.Led c92∧Sep h' lo
   ([Blk1 pb0 [lst cU8 v42.2.code,.int .i64 v42.2.at_,.int .u64 v42.2.seed] 87]++([Blk1 b1 [.nil,.nil,.nil] 31]++([Blk1 b75 [v83,v87,
   v91] 31]++(c84++(c88++(c92++(S0)))))))) (fun Q97 hN98 hR99 hE100=>⟨fun hc101=>?_,fun hc101=>?_⟩) ?_
 ·rw [iteT hc101] at hX95
  simp only [q6i,qf,j8,evp,B0,reduceIte,reduceEqDiff]
  refine jy (n:=1) (f:=cI) [1] hS80 rfl rfl (fun v102 c103 h104 hv105 hS106=>?_)
  simp only [j8,evp,B0,reduceIte,reduceEqDiff]
  refine jy (n:=1) (f:=cI) [2] hS106 rfl rfl (fun v108 c109 h110 hv111 hS112=>?_)
  simp only [j8,evp,B0,reduceIte,reduceEqDiff]
  refine qm0 (R:=RL44) (n:=1) (cs:=[v102]) (cs2:=[v108]) (Sep.m1 hS112) (qaj (us:=[v102]) (vs:=[v102,
    .nil]) (js (SlF.one hv105)) rfl (nle rfl) (qq (SlF.one hv105) zo) rfl (qaj (us:=[v108]) (vs:=[v102,
    v108]) (js (SlF.one hv111)) rfl (nle rfl) (qq (SlF.one hv111) zo) rfl qfr)) (RL44I (x:=[1]) hv105) (RL44I (x:=[2]) hv111) rfl rfl
    (fun v114 c115 h116 hv117 hS118=>?_)
  obtain ⟨v120,hx121,hF122⟩:=qj hX95
  simp only [qv,B0,reduceIte,reduceEqDiff]
  refine qb7 rfl hS118 (qm (SlN.snap hv117 _ hS118 rfl RL44O) qz) (qd4 (fun b hb=>decide_eq_true hb) ([[1],[2]]) v120 hx121) ?_
  rintro _ h135 ⟨v123,c124,v127,c128,v131,c132,rfl,hv125,hv129,hv133,hS136⟩
  refine ⟨_,qcv (qq (qbw (qq (SlN.free1 hv125) (qq (SlF.free1 hv129) (qq (SlF.free1 hv133) zo)))) (qq rfl zo)),hS136,
    (jq (SlN.pf hv125 Server.RO) (jq (SlF.pf hv129 (fun _=>rfl)) (jq (SlF.pf hv133 (fun _=>rfl)) uf))),fun h137 hS138=>?_⟩
  have hS139:Sep h137 lo (c124++(c128++(c132++(c115++([Blk1 b75 [v54,v58,v62] 31]++(c55++(c59++(c63++(c67++(c46++([Blk1 pb0 [lst cU8 v42.2.code,
    .int .i64 v42.2.at_,.int .u64 v42.2.seed] 87]++([Blk1 b1 [.nil,.nil,.nil] 31]++(c17++(S0)))))))))))))):=by simpa only [List.append_assoc,
    List.nil_append] using hS138
  simp only [qd,yu,qb,yz,yy,zl,B0,reduceIte,reduceEqDiff]
  refine q9 (us:=[v123,v127,v131]) rfl (cs':=[v123,v127,
    v131]) (Sep.m4 hS139) hW rfl (qq (SlN.one hv125) (qq (SlF.one hv129) (qq (SlF.one hv133) zo))) (nle rfl) rfl (fun h140 hS141=>?_)
  simp only [qa,qn,B0,reduceIte,reduceEqDiff]
  have e142:=qk hF122
  subst e142
  exact hN98 _ _ ⟨v123,c124,v127,c128,v131,c132,f39,f40,rfl,hv125,hv129,hv133,
    (Sep.m5 (Sep.m5 (Sep.m3 (Sep.m3 (Sep.m3 (Sep.m3 (Sep.dc (Sep.m6 (Sep.dc (Sep.m4 (Sep.dc (Sep.m4 (Sep.dc (Sep.m4 (Sep.dc (Sep.m4 (Sep.dc (Sep.m4 (Sep.dc
    (Sep.m4 hS141))))))))))))))))))))⟩
 ·rw [iteF hc101] at hX95
  simp only [zi,qn,B0,reduceIte,reduceEqDiff]
  have e143:=qk hX95
  subst e143
  exact hN98 _ _ ⟨v54,c55,v58,c59,v62,c63,f39,f40,rfl,hv56,hv60,hv64,
    (Sep.m5 (Sep.m5 (Sep.m3 (Sep.m3 (Sep.m3 (Sep.m3 (Sep.dc (Sep.m6 (Sep.dc (Sep.m4 (Sep.dc (Sep.m4 hS80))))))))))))⟩
 rintro fr144 h145 ⟨v83,c84,v87,c88,v91,c92,f147,f148,f149,hv85,hv89,hv93,hS146⟩
 unfold qc4 at hk96
 obtain ⟨v150,hx151,hF152⟩:=qj hk96
 simp only [qsq,qg,qf,f147,qd,qv,B0,reduceIte,reduceEqDiff]
 refine kg rfl (kw hW pb0 v42.2 30 v150 hx151 hS146) ?_
 rintro _ h153 ⟨rfl,hS154⟩
 simp only [qa,qs6,qaa,qvz,qg,qf,qx,qb,yh,qd,qsi,ze,B0,reduceIte,reduceEqDiff]
 refine zf (t:=(decide (v150.1=0))) (fun hc155=>?_) (fun hc155=>?_)
 ·rw [iteT hc155] at hF152
  simp only [q2z,jv,f149,qbn,qr,Nat.reduceAdd,Nat.zero_add,Nat.add_zero,q8,ue,B0,reduceIte,reduceEqDiff]
  refine qcw (Sep.ltk (Sep.m2 hS154)) ?_
  refine qw (v:=v83) ((jh (Sep.bk _ _ _ (Sep.m2 hS154))).trans rfl) ?_
  simp only [f147,jf,qr,w6,evp,B0,reduceIte,reduceEqDiff]
  refine wh (n:=1) (f:=cI) [(-1),100,101] hS154 rfl rfl (fun v157 c158 h159 hv160 hS161 hq156=>?_)
  obtain ⟨v163,hx164,hF165⟩:=qj hF152
  simp only [ua,B0,reduceIte,reduceEqDiff]
  refine q7y rfl (ms:=[pb0]) (zcv (SlF.noptr hv160)) (qq6 (Sep.bne (Sep.m2 (Sep.m3 hS161))) qm8) hW (Sep.m1 hS161) rfl hq156 (fun b hb =>
    ((Sep.dc hS154).ran b hb).2) (fun hWq hSq=>qfi hWq pb0 v150.2 v157 c158 [(-1),100,101] hv160 v163 hx164 hSq) ?_
  rintro _ h168 ⟨c166,rfl,hv167,hS169⟩ hback
  replace hS169:=hback _ _ hS169
  obtain ⟨x170,hx171,hF172⟩:=qj hF165
  simp only [qee,B0,reduceIte,reduceEqDiff]
  obtain ⟨b173,hb174⟩:=SlN.isrow hv85 (wg hx171)
  refine qw (SlN.ia hv85 hb174 hx171) ?_
  obtain ⟨c177,cs178,os179,hv180,hR181,hS182⟩:=SlG.opn (SlN.toG hv85 hb174 Server.RO.len) hx171 ju Server.RO.len (Sep.m4 hS169)
  obtain ⟨v184,c185,v188,c189,hv186,hv190,rfl,rfl⟩:=hR181
  have hS183:=Sep.no2 hS182
  simp only [jc,qr,Nat.reduceAdd,Nat.zero_add,Nat.add_zero,q8,qbm,B0,reduceIte,reduceEqDiff]
  refine qg3 (n:=6) (us:=[.int .i64 v163.1]) (cs:=[.int .i64 x170.Term,.int .i64 x170.Voted,.bool x170.Stands,.bool x170.Leads,v184,
    v188]) (o:=0) (cs':=[.int .i64 v163.1,.int .i64 x170.Voted,.bool x170.Stands,.bool x170.Leads,v184,
    v188]) rfl hv180 rfl hx171 hS183 hW rfl rfl (nle rfl) rfl (fun c192 h175 hv193 hS176=>?_)
  simp only [zn,um,qg,qf,f149,qo,B0,reduceIte,reduceEqDiff]
  refine qh (v := .agg [v83,v87,v91]) ((zz (Sep.bk _ _ _ (Sep.m6 hS176))).trans rfl) ?_
  simp only [f148,zl,B0,reduceIte,reduceEqDiff]
  refine q9 (us:=[v83,v87,v91]) rfl (cs':=[v83,v87,
    v91]) (Sep.m5 hS176) hW rfl (qq (SlG.one hv193) (qq (SlF.one hv89) (qq (SlF.one hv93) zo))) (nle rfl) rfl (fun h194 hS195=>?_)
  simp only [qa,za,B0,reduceIte,reduceEqDiff]
  obtain ⟨c196,hv197,hS198⟩:=SlG.cls (e':=(Server.mk v163.1 x170.Voted x170.Stands x170.Leads x170.Got x170.Log)) (c:=c192) (os:=c185 ++
    (c189)) hv193 rfl hx171 ju (Server.RI (x:=(Server.mk v163.1 x170.Voted x170.Stands x170.Leads x170.Got x170.Log)) hv186 hv190) (Sep.ni2 (c1:=c185) (c2:=c189)
    (Sep.m3 (Sep.m3 (Sep.m3 hS195))))
  have hx199:=wq (x':=(Server.mk v163.1 x170.Voted x170.Stands x170.Leads x170.Got x170.Log)) hx171
  have hv200:=SlG.toN hv197
  have he:=qk hF172
  subst he
  refine xe (bb:=b1) (oo:=0) (v := .agg [v83,v87,v91]) (by simp only [f148,B0,reduceIte,reduceEqDiff]) ((zz (Sep.bk _ _ _ (Sep.m1 hS198))).trans rfl) ?_
  exact ⟨v83,c196,v87,c88,v91,c92,by first | trivial | rfl,hv200,hv89,hv93,
    (Sep.m3 (Sep.m3 (Sep.m3 (Sep.m1 (Sep.dc (Sep.m2 (Sep.dc (Sep.m2 (Sep.dc (Sep.m1 hS198))))))))))⟩
 rw [iteF hc155] at hF152
 simp only [qxd,qg,qf,qx,qb,yh,qd,qa,q2k,ze,B0,reduceIte,reduceEqDiff]
 refine zf (t:=(decide (v150.1=1))) (fun hc201=>?_) (fun hc201=>?_)
 ·rw [iteT hc201] at hF152
  simp only [q0j,jv,f149,qbn,qr,Nat.reduceAdd,Nat.zero_add,Nat.add_zero,q8,ue,B0,reduceIte,reduceEqDiff]
  refine qcw (Sep.ltk (Sep.m2 hS154)) ?_
  refine qw (v:=v83) ((jh (Sep.bk _ _ _ (Sep.m2 hS154))).trans rfl) ?_
  obtain ⟨v202,hx203,hF204⟩:=qj hF152
  simp only [f147,jf,qr,ua,B0,reduceIte,reduceEqDiff]
  refine quu rfl (ms:=[pb0]) rfl (qq6 (Sep.bne (Sep.m1 (Sep.m2 hS154))) qm8) hW hS154 rfl (Nat.le_refl _) (fun b hb=>((Sep.dc hS154).ran b hb).2)
    (fun hWq hSq=>kw hWq pb0 v150.2 8 v202 hx203 hSq) ?_
  rintro _ h205 ⟨rfl,hS206⟩ hback
  replace hS206:=hback _ hS206
  obtain ⟨x207,hx208,hF209⟩:=qj hF204
  simp only [uv,qr,qbd,qee,B0,reduceIte,reduceEqDiff]
  obtain ⟨b210,hb211⟩:=SlN.isrow hv85 (wg hx208)
  refine qw (SlN.ia hv85 hb211 hx208) ?_
  obtain ⟨c214,cs215,os216,hv217,hR218,hS219⟩:=SlG.opn (SlN.toG hv85 hb211 Server.RO.len) hx208 ju Server.RO.len (Sep.m3 hS206)
  obtain ⟨v221,c222,v225,c226,hv223,hv227,rfl,rfl⟩:=hR218
  have hS220:=Sep.no2 hS219
  simp only [jc,qr,Nat.reduceAdd,Nat.zero_add,Nat.add_zero,q8,qbm,B0,reduceIte,reduceEqDiff]
  refine qg3 (n:=6) (us:=[.int .i64 (IntKind.wrap .i64 (v202.1 - 2))]) (cs:=[.int .i64 x207.Term,.int .i64 x207.Voted,.bool x207.Stands,.bool x207.Leads,v221,
    v225]) (o:=1) (cs':=[.int .i64 x207.Term,.int .i64 (IntKind.wrap .i64 (v202.1 - 2)),.bool x207.Stands,.bool x207.Leads,v221,
    v225]) rfl hv217 rfl hx208 hS220 hW rfl rfl (nle rfl) rfl (fun c229 h212 hv230 hS213=>?_)
  simp only [zn,um,qg,qf,f149,qo,B0,reduceIte,reduceEqDiff]
  refine qh (v := .agg [v83,v87,v91]) ((zz (Sep.bk _ _ _ (Sep.m5 hS213))).trans rfl) ?_
  simp only [f148,zl,B0,reduceIte,reduceEqDiff]
  refine q9 (us:=[v83,v87,v91]) rfl (cs':=[v83,v87,
    v91]) (Sep.m4 hS213) hW rfl (qq (SlG.one hv230) (qq (SlF.one hv89) (qq (SlF.one hv93) zo))) (nle rfl) rfl (fun h231 hS232=>?_)
  simp only [qa,za,B0,reduceIte,reduceEqDiff]
  obtain ⟨c233,hv234,hS235⟩:=SlG.cls (e':=(Server.mk x207.Term (IntKind.wrap .i64 (v202.1 - 2)) x207.Stands x207.Leads x207.Got x207.Log)) (c:=c229) (os:=c222 ++
    (c226)) hv230 rfl hx208 ju (Server.RI (x:=(Server.mk x207.Term (IntKind.wrap .i64 (v202.1 - 2)) x207.Stands x207.Leads x207.Got x207.Log)) hv223 hv227) (Sep.ni2
    (c1:=c222) (c2:=c226) (Sep.m3 (Sep.m3 (Sep.m3 hS232))))
  have hx236:=wq (x':=(Server.mk x207.Term (IntKind.wrap .i64 (v202.1 - 2)) x207.Stands x207.Leads x207.Got x207.Log)) hx208
  have hv237:=SlG.toN hv234
  have he:=qk hF209
  subst he
  refine xe (bb:=b1) (oo:=0) (v := .agg [v83,v87,v91]) (by simp only [f148,B0,reduceIte,reduceEqDiff]) ((zz (Sep.bk _ _ _ (Sep.m1 hS235))).trans rfl) ?_
  exact ⟨v83,c233,v87,c88,v91,c92,by first | trivial | rfl,hv237,hv89,hv93,(Sep.m3 (Sep.m3 (Sep.m3 (Sep.m1 (Sep.dc (Sep.m2 (Sep.dc (Sep.m1 hS235))))))))⟩
 rw [iteF hc201] at hF152
 simp only [q4w,qg,qf,qx,qb,yh,qd,qa,q6y,ze,B0,reduceIte,reduceEqDiff]
 refine zf (t:=(decide (v150.1=2))) (fun hc238=>?_) (fun hc238=>?_)
 ·rw [iteT hc238] at hF152
  simp only [q3h,qf,f149,qt,qb,Nat.reduceAdd,Nat.zero_add,Nat.add_zero,q8,qo,B0,reduceIte,reduceEqDiff]
  refine qh (v:=v83) ((jh (Sep.bk _ _ _ (Sep.m2 hS154))).trans rfl) ?_
  obtain ⟨x239,hx240,hF241⟩:=qj hF152
  simp only [jr,B0,reduceIte,reduceEqDiff]
  obtain ⟨b242,hb243⟩:=SlN.isrow hv85 (wg hx240)
  refine qh (SlN.ia hv85 hb243 hx240) ?_
  obtain ⟨c246,cs247,os248,hv249,hR250,hS251⟩:=SlG.opn (SlN.toG hv85 hb243 Server.RO.len) hx240 ju Server.RO.len (Sep.m3 hS154)
  obtain ⟨v253,c254,v257,c258,hv255,hv259,rfl,rfl⟩:=hR250
  have hS252:=Sep.no2 hS251
  simp only [qt,qb,Nat.reduceAdd,Nat.zero_add,Nat.add_zero,q8,zl,B0,reduceIte,reduceEqDiff]
  refine y7 (n:=6) (us:=[.bool true]) (cs:=[.int .i64 x239.Term,.int .i64 x239.Voted,.bool x239.Stands,.bool x239.Leads,v253,
    v257]) (o:=3) (cs':=[.int .i64 x239.Term,.int .i64 x239.Voted,.bool x239.Stands,.bool true,v253,
    v257]) rfl hv249 rfl hx240 hS252 hW rfl rfl (nle rfl) rfl (fun c261 h244 hv262 hS245=>?_)
  simp only [qa,um,qg,qf,f149,qo,B0,reduceIte,reduceEqDiff]
  refine qh (v := .agg [v83,v87,v91]) ((zz (Sep.bk _ _ _ (Sep.m5 hS245))).trans rfl) ?_
  simp only [f148,zl,B0,reduceIte,reduceEqDiff]
  refine q9 (us:=[v83,v87,v91]) rfl (cs':=[v83,v87,
    v91]) (Sep.m4 hS245) hW rfl (qq (SlG.one hv262) (qq (SlF.one hv89) (qq (SlF.one hv93) zo))) (nle rfl) rfl (fun h263 hS264=>?_)
  simp only [qa,za,B0,reduceIte,reduceEqDiff]
  obtain ⟨c265,hv266,hS267⟩:=SlG.cls (e':=(Server.mk x239.Term x239.Voted x239.Stands true x239.Got x239.Log)) (c:=c261) (os:=c254++(c258)) hv262 rfl hx240 ju
    (Server.RI (x:=(Server.mk x239.Term x239.Voted x239.Stands true x239.Got x239.Log)) hv255 hv259) (Sep.ni2 (c1:=c254) (c2:=c258) (Sep.m3 (Sep.m3 (Sep.m3 hS264))))
  have hx268:=wq (x':=(Server.mk x239.Term x239.Voted x239.Stands true x239.Got x239.Log)) hx240
  have hv269:=SlG.toN hv266
  have he:=qk hF241
  subst he
  refine xe (bb:=b1) (oo:=0) (v := .agg [v83,v87,v91]) (by simp only [f148,B0,reduceIte,reduceEqDiff]) ((zz (Sep.bk _ _ _ (Sep.m1 hS267))).trans rfl) ?_
  exact ⟨v83,c265,v87,c88,v91,c92,by first | trivial | rfl,hv269,hv89,hv93,(Sep.m3 (Sep.m3 (Sep.m3 (Sep.m1 (Sep.dc (Sep.m2 (Sep.dc (Sep.m1 hS267))))))))⟩
 rw [iteF hc238] at hF152
 simp only [zi,um,qg,qf,f149,qo,B0,reduceIte,reduceEqDiff]
 refine qh (v := .agg [v83,v87,v91]) ((zz (Sep.bk _ _ _ (Sep.m2 hS154))).trans rfl) ?_
 simp only [f148,zl,B0,reduceIte,reduceEqDiff]
 refine q9 (us:=[v83,v87,v91]) rfl (cs':=[v83,v87,
   v91]) (Sep.m1 hS154) hW rfl (qq (SlN.one hv85) (qq (SlF.one hv89) (qq (SlF.one hv93) zo))) (nle rfl) rfl (fun h270 hS271=>?_)
 simp only [qa,za,B0,reduceIte,reduceEqDiff]
 have he:=qk hF152
 subst he
 refine xe (bb:=b1) (oo:=0) (v := .agg [v83,v87,v91]) (by simp only [f148,B0,reduceIte,reduceEqDiff]) ((zz (Sep.bk _ _ _ hS271)).trans rfl) ?_
 exact ⟨v83,c84,v87,c88,v91,c92,by first | trivial | rfl,hv85,hv89,hv93,(Sep.m3 (Sep.m3 (Sep.m3 (Sep.dc (Sep.m1 (Sep.dc (hS271)))))))⟩
theorem qhn {W:Nat→Bool}{h:Heap} (hW:∀ b,
  (geL h.length) b→W b=true) (k:Nat) (code_0:List Int) (r:Election × ElectStep) (hF:xx k code_0=some r) : Ret E W 15 [lst cU8 code_0] h
  (fun v h'=>∃ rv0_0 rc0_0 rv0_1 rc0_1 rv0_2 rc0_2,v = .tup [.agg [rv0_0,rv0_1,rv0_2],.agg [.int .i64 r.2.Term,
  .int .i64 r.2.Leader]]∧SlN Server.R 6 46 rv0_0 r.1.Servers rc0_0∧SlF qe 7 93 rv0_1 r.1.Post rc0_1∧SlF ql 2 39 rv0_2 r.1.Led rc0_2∧Sep h'
  (geL h.length) (rc0_0++(rc0_1++(rc0_2++([]))))):=by
 refine Ret.of (fn:=x15) rfl (Run.of ?_)
 unfold xx at hF
 have zf0:zh [lst cU8 code_0] 0=lst cU8 code_0:=rfl
 generalize zh [lst cU8 code_0]=fr0 at zf0 ⊢
 have hS:Sep h (geL h.length) []:=Sep.nil h
 simp only [x15,qg,qf,jg,B0,reduceIte,reduceEqDiff]
 refine zw hS (fun b1 h2 hS3=>?_)
 simp only [jg,B0,reduceIte,reduceEqDiff]
 refine zw hS3 (fun b5 h6 hS7=>?_)
 simp only [qa,q28,qg,qf,zf0,qd,run_build,evp,B0,reduceIte,reduceEqDiff]
 refine qh (v := .agg [lst cU8 code_0,.int .i64 0,.int .u64 0]) rfl ?_
 simp only [kc,B0,reduceIte,reduceEqDiff]
 refine jo (cs:=[lst cU8 code_0,.int .i64 0,.int .u64 0]) hS7 rfl rfl rfl (fun b9 h10 hS11=>?_)
 obtain ⟨v13,hx14,hF15⟩:=qj hF
 simp only [qd,qa,qz7,qg,qf,qv,B0,reduceIte,reduceEqDiff]
 refine kg rfl (qfn hW k b9 (L1Cur.mk code_0 0 0) v13 hx14 hS11) ?_
 rintro _ h28 ⟨v16,c17,v20,c21,v24,c25,rfl,hv18,hv22,hv26,hS29⟩
 simp only [jg,B0,reduceIte,reduceEqDiff]
 refine zw hS29 (fun b30 h31 hS32=>?_)
 simp only [zl,B0,reduceIte,reduceEqDiff]
 refine q9 (us:=[v16,v20,v24]) rfl (cs':=[v16,v20,
   v24]) hS32 hW rfl (qq (SlN.one hv18) (qq (SlF.one hv22) (qq (SlF.one hv26) zo))) (nle rfl) rfl (fun h34 hS35=>?_)
 simp only [qa,B0,reduceIte,reduceEqDiff]
 refine zy hS35 hW (by simp only [B0,reduceIte,reduceEqDiff]) (fun h36 hS37=>?_)
 obtain ⟨v38,hx39,hF40⟩:=qj hF15
 simp only [zv,q7g,qg,qf,qd,qv,B0,reduceIte,reduceEqDiff]
 refine kg rfl (qgx hW k b9 v13.2 v38 hx39 (Sep.m3 hS37)) ?_
 rintro v41 h45 ⟨_,c42,rfl,hv43,hS46⟩
 simp only [qd,qa,q49,qg,qf,zr,qb,SlF.plen hv43,qx,yh,q67,ze,B0,reduceIte,reduceEqDiff]
 refine zf (t:=(decide ((List.length v38.1:Int)=0))) (fun hc47=>?_) (fun hc47=>?_)
 ·rw [iteT hc47] at hF40
  simp only [q0g,qg,qf,qo,B0,reduceIte,reduceEqDiff]
  refine qh (v := .agg [v16,v20,v24]) rfl ?_
  simp only [run_build,evp,B0,reduceIte,reduceEqDiff]
  refine qh (v := .agg [.int .i64 1,.int .i64 0]) rfl ?_
  simp only [zl,B0,reduceIte,reduceEqDiff]
  refine q9 (us:=[v16,v20,v24]) rfl (cs':=[v16,v20,
    v24]) (Sep.m6 hS46) hW rfl (qq (SlN.one hv18) (qq (SlF.one hv22) (qq (SlF.one hv26) zo))) (nle rfl) rfl (fun h48 hS49=>?_)
  simp only [zl,B0,reduceIte,reduceEqDiff]
  refine q9 (us:=[.int .i64 1,.int .i64 0]) rfl (cs':=[.int .i64 1,.int .i64 0]) (Sep.m6 hS49) hW rfl rfl (nle rfl) rfl (fun h50 hS51=>?_)
  simp only [qa,za,B0,reduceIte,reduceEqDiff]
  have he:=qk hF40
  subst he
  refine jt (qm (j6 (bb:=b1) (oo:=0) (v := .agg [v16,v20,
    v24]) (rfl) ((zz (Sep.bk _ _ _ (Sep.m1 hS51))).trans rfl)) (qm (j6 (bb:=b5) (oo:=0) (v := .agg [.int .i64 1,
    .int .i64 0]) (rfl) ((zz (Sep.bk _ _ _ hS51)).trans rfl)) qz)) ?_
  exact ⟨v16,c17,v20,c21,v24,c25,by first | trivial | rfl,hv18,hv22,hv26,(Sep.m2 (Sep.m2 (Sep.m2 (Sep.dc ((Sep.dc ((Sep.dc ((Sep.dc (hS51)))))))))))⟩
 rw [iteF hc47] at hF40
 simp only [zi,q10,qg,jv,ja,B0,reduceIte,reduceEqDiff]
 refine qw (v := .agg [v16,v20,v24]) rfl ?_
 obtain ⟨x52,hx53,hF54⟩:=qj hF40
 simp only [qfb,qr,q2j,B0,reduceIte,reduceEqDiff]
 obtain ⟨b55,hb56⟩:=SlF.isrow hv43 (wg hx53)
 refine qw (SlF.ia hv43 hb56 hx53) ?_
 simp only [ue,B0,reduceIte,reduceEqDiff]
 refine qcw (SlF.ltk hv43 hb56 hS46) ?_
 refine qw (v := .agg [.int .i64 x52.Term,.int .i64 x52.Leader]) ((SlF.lds (o:=0) hv43 hS46 hb56 hx53 (fun _=>rfl) (nle rfl)).trans rfl) ?_
 simp only [zb0,B0,reduceIte,reduceEqDiff]
 refine zdm (qq6 (Sep.dj (Sep.m6 hS46) (SlF.bfp hv43 hb56) qfq) qm8) ?_
 refine wa (us:=[v16,v20,v24]) rfl (cs':=[v16,v20,
   v24]) (Sep.m6 hS46) hW rfl (qq (SlN.one hv18) (qq (SlF.one hv22) (qq (SlF.one hv26) zo))) (nle rfl) rfl (fun h57 hS58=>?_)
 simp only [qbm,B0,reduceIte,reduceEqDiff]
 refine wa (us:=[.int .i64 x52.Term,.int .i64 x52.Leader]) rfl (cs':=[.int .i64 x52.Term,
   .int .i64 x52.Leader]) (Sep.m6 hS58) hW rfl rfl (nle rfl) rfl (fun h59 hS60=>?_)
 simp only [zn,za,B0,reduceIte,reduceEqDiff]
 have he:=qk hF54
 subst he
 refine jt (qm (j6 (bb:=b1) (oo:=0) (v := .agg [v16,v20,
   v24]) (rfl) ((zz (Sep.bk _ _ _ (Sep.m1 hS60))).trans rfl)) (qm (j6 (bb:=b5) (oo:=0) (v := .agg [.int .i64 x52.Term,
   .int .i64 x52.Leader]) (rfl) ((zz (Sep.bk _ _ _ hS60)).trans rfl)) qz)) ?_
 exact ⟨v16,c17,v20,c21,v24,c25,by first | trivial | rfl,hv18,hv22,hv26,(Sep.m2 (Sep.m2 (Sep.m2 (Sep.dc ((Sep.dc ((Sep.dc ((Sep.dc (hS60)))))))))))⟩
theorem qje {W:Nat→Bool}{h:Heap} (hW:∀ b,
  (geL h.length) b→W b=true) (e_0:Election) (r:Election) (hF:qau e_0=some r) : Ret E W 93 [.agg [lst qi e_0.Servers,
  lst qe e_0.Post,lst ql e_0.Led]] h (fun v h'=>∃ rv0_0 rc0_0 rv0_1 rc0_1 rv0_2 rc0_2,v = .agg [rv0_0,rv0_1,
  rv0_2]∧SlN Server.R 6 46 rv0_0 r.Servers rc0_0∧SlF qe 7 93 rv0_1 r.Post rc0_1∧SlF ql 2 39 rv0_2 r.Led rc0_2∧Sep h' (geL h.length) (rc0_0 ++
  (rc0_1++(rc0_2++([]))))):=by
 refine Ret.of (fn:=x93) rfl (Run.of ?_)
 unfold qau at hF
 have zf0:zh [.agg [lst qi e_0.Servers,lst qe e_0.Post,lst ql e_0.Led]] 0 = .agg [lst qi e_0.Servers,lst qe e_0.Post,
   lst ql e_0.Led]:=rfl
 generalize zh [.agg [lst qi e_0.Servers,lst qe e_0.Post,lst ql e_0.Led]]=fr0 at zf0 ⊢
 have hS:Sep h (geL h.length) []:=Sep.nil h
 simp only [x93,qg,qf,kc,zf0,B0,reduceIte,reduceEqDiff]
 refine jo (cs:=[lst qi e_0.Servers,lst qe e_0.Post,lst ql e_0.Led]) hS rfl rfl rfl (fun b1 h2 hS3=>?_)
 simp only [jg,B0,reduceIte,reduceEqDiff]
 refine zw hS3 (fun b5 h6 hS7=>?_)
 simp only [qa,B0,reduceIte,reduceEqDiff]
 refine zy (Sep.m1 hS7) hW (by simp only [B0,reduceIte,reduceEqDiff]) (fun h9 hS10=>?_)
 simp only [zv,q1b,qg,jv,w6,evp,B0,reduceIte,reduceEqDiff]
 refine wh (n:=7) (f:=qe) ([] : List Letter) hS10 rfl rfl (fun v12 c13 h14 hv15 hS16 hq11=>?_)
 simp only [qmv,evp,B0,reduceIte,reduceEqDiff]
 refine qev (n:=2) (f:=ql) ([] : List Vote) hS16 rfl rfl (fun v18 c19 h20 hv21 hS22=>?_)
 simp only [qk4,B0,reduceIte,reduceEqDiff]
 refine qgz hS22 (fun b24 h25 hS26=>?_)
 simp only [jc,qr,Nat.reduceAdd,Nat.zero_add,Nat.add_zero,qu,ja,B0,reduceIte,reduceEqDiff]
 refine qw (v:=lst qe e_0.Post) rfl ?_
 simp only [qid,B0,reduceIte,reduceEqDiff]
 obtain ⟨l28,hx29,hF30⟩:=qj hF
 have hq31:=nwq (fun z hz=>Sep.dj (Sep.m3 (Sep.m3 hS26)) qfq (SlF.rowfp hv15 z hz))
 refine qlk qjz ?_
 refine wv (f:=qe) hv15 (Sep.m2 hS26) hW (fun _=>rfl) (fun _=>rfl) (ub (fun _=>rfl)) hx29 (fun v32 c33 h34 hv35 hS36=>?_)
 simp only [qbn,qr,Nat.reduceAdd,Nat.zero_add,Nat.add_zero,qu,ue,qcp,B0,reduceIte,reduceEqDiff]
 refine qw (v:=lst ql e_0.Led) rfl ?_
 simp only [qd2,B0,reduceIte,reduceEqDiff]
 obtain ⟨l38,hx39,hF40⟩:=qj hF30
 refine wv (f:=ql) hv21 (Sep.m2 hS36) hW (fun _=>rfl) (fun _=>rfl) (ub (fun _=>rfl)) hx39 (fun v41 c42 h43 hv44 hS45=>?_)
 simp only [qci,evp,B0,reduceIte,reduceEqDiff]
 refine qw (v := .agg [.nil,v32,v41]) (qeo (qaj (us:=[v32]) (vs:=[.nil,v32,
   .nil]) (js (SlF.one hv35)) rfl (nle rfl) (qq (SlF.one hv35) zo) rfl (qaj (us:=[v41]) (vs:=[.nil,v32,
   v41]) (js (SlF.one hv44)) rfl (nle rfl) (qq (SlF.one hv44) zo) rfl qfr))) ?_
 simp only [qbm,B0,reduceIte,reduceEqDiff]
 refine wa (us:=[.nil,v32,v41]) rfl (cs':=[.nil,v32,
   v41]) (Sep.m2 hS45) hW rfl (qq rfl (qq (SlF.one hv35) (qq (SlF.one hv44) zo))) (nle rfl) rfl (fun h47 hS48=>?_)
 simp only [zn,q6d,qg,qf,qt,qb,Nat.reduceAdd,Nat.zero_add,Nat.add_zero,qu,qo,B0,reduceIte,reduceEqDiff]
 refine qh (v:=lst qi e_0.Servers) rfl ?_
 simp only [zr,qb,zx,qd,qa,B0,reduceIte,reduceEqDiff]
 obtain ⟨oc61,hX63,hk64⟩:=kn hF40
 simp only [q4u]
 refine wb (σ:=Election) e_0.Servers (fun i59 x60 s140=>qa9 l28 l38 i59 x60 s140) (fun s fr' h'=>∃ v56 c57,
   fr' 2 = .ptr b5 0∧fr' 3 = .ptr b24 0∧fr' 16=lst qi e_0.Servers∧SlN Server.R 6 46 v56 s.Servers c57∧Sep h' (geL h.length) ([Blk1 b5 [.nil,.nil,
   .nil] 31]++([Blk1 b24 [v56,v32,v41] 31]++(c57++(c33++(c42++([]))))))) hX63 ⟨.nil,[],rfl,rfl,rfl,SlN.nil,
   ((Sep.m3 (Sep.m2 (Sep.m2 (Sep.m1 hS48)))) : Sep _ (geL h.length) ([Blk1 b5 [.nil,.nil,.nil] 31]++([Blk1 b24 [.nil,v32,
   v41] 31]++(c33++(c42++([]))))))⟩ (by simp only [B0,reduceIte,reduceEqDiff]) (by simp only [B0,reduceIte,
   reduceEqDiff]) (fun _ _ _ h=>h) rfl rfl (fun _ _ _ _ h=>h) (fun _ _ _ _ h=>h) (fun _ _ _ _ h=>h) (by decide) ?_ ?_
 ·rintro i59 x60 s54 fr73 h74 hx79 ⟨v56,c57,f76,f77,f78,hv58,hS75⟩ f80 f81 oc62 hF65 hr66 Q67 hN68 hB72 hK69 hR70 hE71
  unfold qa9 at hF65
  simp only [q4v,qg,qf,f78,f80,jr,B0,reduceIte,reduceEqDiff]
  refine qh (v := .ref (qi x60) 0) (wc hx79 rfl) ?_
  simp only [qo,B0,reduceIte,reduceEqDiff]
  refine qh (v := .agg [.int .i64 x60.Term,.int .i64 x60.Voted,.bool x60.Stands,.bool x60.Leads,lst cI x60.Got,lst cI x60.Log]) rfl ?_
  simp only [jg,B0,reduceIte,reduceEqDiff]
  refine zw hS75 (fun b82 h83 hS84=>?_)
  simp only [zl,B0,reduceIte,reduceEqDiff]
  refine q9 (us:=[.int .i64 x60.Term,.int .i64 x60.Voted,.bool x60.Stands,.bool x60.Leads,lst cI x60.Got,lst cI x60.Log]) rfl (cs':=[.int .i64 x60.Term,
    .int .i64 x60.Voted,.bool x60.Stands,.bool x60.Leads,lst cI x60.Got,lst cI x60.Log]) hS84 hW rfl rfl (nle rfl) rfl (fun h86 hS87=>?_)
  simp only [qa,q2q,qg,qf,j8,evp,B0,reduceIte,reduceEqDiff]
  refine jy (n:=1) (f:=cI) ([] : List Int) hS87 rfl rfl (fun v88 c89 h90 hv91 hS92=>?_)
  simp only [qt,qb,Nat.reduceAdd,Nat.zero_add,Nat.add_zero,q8,qo,B0,reduceIte,reduceEqDiff]
  refine qh (v:=lst cI x60.Got) ((jh (Sep.bk _ _ _ (Sep.m1 hS92))).trans rfl) ?_
  simp only [wu,B0,reduceIte,reduceEqDiff]
  obtain ⟨l94,hx95,hF96⟩:=qj hF65
  refine yx (f:=cI) hv91 hS92 hW (fun _=>rfl) (fun _=>rfl) (ub (fun _=>rfl)) hx95 (fun v97 c98 h99 hv100 hS101=>?_)
  simp only [qt,qb,Nat.reduceAdd,Nat.zero_add,Nat.add_zero,q8,zl,B0,reduceIte,reduceEqDiff]
  refine q9 (us:=[v97]) (js (SlF.one hv100)) (cs':=[.int .i64 x60.Term,.int .i64 x60.Voted,.bool x60.Stands,.bool x60.Leads,v97,
    lst cI x60.Log]) (Sep.m1 hS101) hW rfl (qq (SlF.one hv100) zo) (nle rfl) rfl (fun h103 hS104=>?_)
  simp only [qa,q3s,qg,qf,j8,evp,B0,reduceIte,reduceEqDiff]
  refine jy (n:=1) (f:=cI) ([] : List Int) hS104 rfl rfl (fun v105 c106 h107 hv108 hS109=>?_)
  simp only [qt,qb,Nat.reduceAdd,Nat.zero_add,Nat.add_zero,q8,qo,B0,reduceIte,reduceEqDiff]
  refine qh (v:=lst cI x60.Log) ((jh (Sep.bk _ _ _ (Sep.m1 hS109))).trans rfl) ?_
  simp only [wu,B0,reduceIte,reduceEqDiff]
  obtain ⟨l111,hx112,hF113⟩:=qj hF96
  refine yx (f:=cI) hv108 hS109 hW (fun _=>rfl) (fun _=>rfl) (ub (fun _=>rfl)) hx112 (fun v114 c115 h116 hv117 hS118=>?_)
  simp only [qt,qb,Nat.reduceAdd,Nat.zero_add,Nat.add_zero,q8,zl,B0,reduceIte,reduceEqDiff]
  refine q9 (us:=[v114]) (js (SlF.one hv117)) (cs':=[.int .i64 x60.Term,.int .i64 x60.Voted,.bool x60.Stands,.bool x60.Leads,v97,
    v114]) (Sep.m1 hS118) hW rfl (qq (SlF.one hv117) zo) (nle rfl) rfl (fun h120 hS121=>?_)
  simp only [qa,q6n,qf,f77,qt,qb,Nat.reduceAdd,Nat.zero_add,Nat.add_zero,q8,qo,B0,reduceIte,reduceEqDiff]
  refine qh (v:=v56) ((jh (Sep.bk _ _ _ (Sep.m4 hS121))).trans rfl) ?_
  simp only [qo,B0,reduceIte,reduceEqDiff]
  refine qh (v := .agg [.int .i64 x60.Term,.int .i64 x60.Voted,.bool x60.Stands,.bool x60.Leads,v97,v114]) ((zz (Sep.bk _ _ _ hS121)).trans rfl) ?_
  simp only [j8,evp,B0,reduceIte,reduceEqDiff]
  refine qfd (R:=Server.R) (n:=6) (cs:=[.int .i64 x60.Term,.int .i64 x60.Voted,.bool x60.Stands,.bool x60.Leads,v97,
    v114]) (os:=c98++(c115)) (Sep.bi2 (c1:=c98) (c2:=c115) (Sep.m2 (Sep.m1 hS121))) (qaj (us:=[.int .i64 x60.Term,.int .i64 x60.Voted,.bool x60.Stands,
    .bool x60.Leads,v97,v114]) (vs:=[.int .i64 x60.Term,.int .i64 x60.Voted,.bool x60.Stands,.bool x60.Leads,v97,
    v114]) rfl rfl (nle rfl) (qq rfl (qq rfl (qq rfl (qq rfl (qq (SlF.one hv100) (qq (SlF.one hv117) zo)))))) rfl qfr) (Server.RI (x :=
    (Server.mk x60.Term x60.Voted x60.Stands x60.Leads l94 l111)) hv100 hv117) rfl (fun v122 c123 h124 hv125 hS126=>?_)
  simp only [wu,B0,reduceIte,reduceEqDiff]
  obtain ⟨l128,hx129,hF130⟩:=qj hF113
  refine qhv (R:=Server.R) (c:=c57) hv58 hv125 (Sep.m4 hS126) hW Server.RO.len Server.RO.one hx129 (fun v131 c132 h133 hv134 hS135=>?_)
  simp only [f77,qt,qb,Nat.reduceAdd,Nat.zero_add,Nat.add_zero,q8,zl,B0,reduceIte,reduceEqDiff]
  refine q9 (us:=[v131]) (js (SlN.one hv134)) (cs':=[v131,v32,v41]) (Sep.m3 hS135) hW rfl (qq (SlN.one hv134) zo) (nle rfl) rfl (fun h137 hS138=>?_)
  simp only [qa,qn,B0,reduceIte,reduceEqDiff]
  have e139:=qk hF130
  exact hN68 _ _ _ e139.symm ⟨v131,c132,f76,f77,f78,hv134,(Sep.m4 (Sep.m3 (Sep.m3 (Sep.m4 (Sep.m4 (Sep.dc (Sep.m2 hS138)))))))⟩ (f80) (f81)
 rintro s141 fr146 h147 rfl ⟨v143,c144,f149,f150,f151,hv145,hS148⟩
 dsimp only [jnO] at hk64
 unfold qfs at hk64
 simp only [qg,qf,f150,qo,B0,reduceIte,reduceEqDiff]
 refine qh (v := .agg [v143,v32,v41]) ((zz (Sep.bk _ _ _ (Sep.m1 hS148))).trans rfl) ?_
 simp only [f149,zl,B0,reduceIte,reduceEqDiff]
 refine q9 (us:=[v143,v32,v41]) rfl (cs':=[v143,v32,
   v41]) hS148 hW rfl (qq (SlN.one hv145) (qq (SlF.one hv35) (qq (SlF.one hv44) zo))) (nle rfl) rfl (fun h152 hS153=>?_)
 simp only [qa,za,B0,reduceIte,reduceEqDiff]
 have he:=qk hk64
 subst he
 refine xe (bb:=b5) (oo:=0) (v := .agg [v143,v32,v41]) (by simp only [f149,B0,reduceIte,reduceEqDiff]) ((zz (Sep.bk _ _ _ hS153)).trans rfl) ?_
 exact ⟨v143,c144,v32,c33,v41,c42,by first | trivial | rfl,hv145,hv35,hv44,(Sep.m2 (Sep.m2 (Sep.m2 (Sep.dc ((Sep.dc (hS153)))))))⟩
end Go.Proofs.Ytpddolihbnfahaa.X
namespace Go.Proofs.Ytpddolihbnfahaa.X
open Go
open Nat (reduceEqDiff)
theorem qc7 {W:Nat→Bool}{h:Heap}{lo:Nat→Prop}{S0:List Obj} (hW:∀ b,
  lo b→W b=true) (pb0:Nat) (e_0:Election) (pv0_0:XV) (pc0_0:List Obj) (ph0_0:SlN Server.R 6 46 pv0_0 e_0.Servers pc0_0) (pv0_1:XV) (pc0_1:List Obj)
  (ph0_1:SlF qe 7 93 pv0_1 e_0.Post pc0_1) (pv0_2:XV) (pc0_2:List Obj) (ph0_2:SlF ql 2 39 pv0_2 e_0.Led pc0_2) (k_1:Int) (r:Election)
  (hF:xq e_0 k_1=some r) (hS:Sep h lo ([Blk1 pb0 [pv0_0,pv0_1,pv0_2] 31]++(pc0_0++(pc0_1++(pc0_2++(S0)))))) : Ret E W 113 [.ptr pb0 0,
  .int .i64 k_1] h (fun v h'=>∃ ic0_0 ic0_1 iv0_2 ic0_2,
  v = .tup []∧SlN Server.R 6 46 pv0_0 r.Servers ic0_0∧SlF qe 7 93 pv0_1 r.Post ic0_1∧SlF ql 2 39 iv0_2 r.Led ic0_2∧Sep h' lo ([Blk1 pb0 [pv0_0,pv0_1,
  iv0_2] 31]++(ic0_0++(ic0_1++(ic0_2++(S0)))))):=by
 refine Ret.of (fn:=kp) rfl (Run.of ?_)
 unfold xq at hF
 have zf0:zh [.ptr pb0 0,.int .i64 k_1] 0 = .ptr pb0 0:=rfl
 have zf1:zh [.ptr pb0 0,.int .i64 k_1] 1 = .int .i64 k_1:=rfl
 generalize zh [.ptr pb0 0,.int .i64 k_1]=fr0 at zf0 zf1 ⊢
 simp only [kp,qg,qf,zf0,qd,wx,qb,z9,qt,Nat.reduceAdd,Nat.zero_add,Nat.add_zero,q8,qo,B0,reduceIte,reduceEqDiff]
 refine qh (v:=pv0_0) ((jh (Sep.bk _ _ _ hS)).trans rfl) ?_
 obtain ⟨x1,hx2,hF3⟩:=qj hF
 simp only [zf1,qd,jr,B0,reduceIte,reduceEqDiff]
 obtain ⟨b4,hb5⟩:=SlN.isrow ph0_0 (wg hx2)
 refine qh (SlN.ia ph0_0 hb5 hx2) ?_
 obtain ⟨c6,cs7,os8,hv9,hR10,hS11⟩:=SlG.opn (SlN.toG ph0_0 hb5 Server.RO.len) hx2 ju Server.RO.len (Sep.m1 hS)
 obtain ⟨v13,c14,v17,c18,hv15,hv19,rfl,rfl⟩:=hR10
 have hS12:=Sep.no2 hS11
 simp only [qd,qa,qv0,qg,jv,jf,qr,ku,z9,jc,Nat.reduceAdd,Nat.zero_add,Nat.add_zero,q8,ja,B0,reduceIte,
   reduceEqDiff]
 refine qw (v := .bool x1.Stands) ((SlG.ld (o:=2) hv9 rfl hx2 hS12 (nle rfl)).trans rfl) ?_
 simp only [jf,qr,B0,reduceIte,reduceEqDiff]
 refine qfv 13 (fun fr' h'=>Sep h' lo ([Blk1 pb0 [pv0_0,pv0_1,
   pv0_2] 31]++(c6++(pc0_1++(pc0_2++(c14++(c18++(S0)))))))∧fr' 28 = .bool (x1.Stands&&(decide ((List.length e_0.Servers:Int)<(IntKind.wrap .i64
   ((2:Int)*(List.length x1.Got:Int))))))∧fr' 0 = .ptr pb0 0∧fr' 1 = .int .i64 k_1∧fr' 4 = .ptr b4 (k_1.toNat*6)) rfl (fun Q21 hN22=>?_) ?_
 ·simp only [List.take_succ_cons,List.take_zero]
  simp only [zc (g:=15),B0,reduceIte,reduceEqDiff]
  refine k7 (t:=x1.Stands) (fun hg23=>?_) (fun hg23=>?_)
  ·simp only [hg23,zc (g:=15),yj,jf,qr,ku,z9,jc,Nat.reduceAdd,Nat.zero_add,Nat.add_zero,q8,ja,B0,reduceIte,
    reduceEqDiff]
   refine qw (v:=v13) ((SlG.ld (o:=4) hv9 rfl hx2 hS12 (nle rfl)).trans rfl) ?_
   simp only [hg23,zc (g:=15),yj,qhl,qr,SlF.plen hv15,uv,qmg,zf0,jf,ku,z9,jc,Nat.reduceAdd,Nat.zero_add,
     Nat.add_zero,q8,ja,B0,reduceIte,reduceEqDiff]
   refine qw (v:=pv0_0) ((jh (Sep.bk _ _ _ (Sep.m3 hS12))).trans rfl) ?_
   simp only [hg23,zc (g:=15),yj,qhl,qr,SlG.plen hv9,uv,xb,kr,zj,zn,qn,B0,reduceIte,reduceEqDiff]
   exact hN22 _ _ ⟨(Sep.m5 (Sep.m4 (Sep.m5 (Sep.m5 (Sep.m2 (Sep.m2 hS12)))))),by rw [xl hg23]; simp only [B0,reduceIte,reduceEqDiff],zf0,zf1,rfl⟩
  ·simp only [hg23,zc (g:=15),qfk,kr,qr,zk,zn,qn,B0,reduceIte,reduceEqDiff]
   exact hN22 _ _ ⟨(Sep.m5 (Sep.m4 (Sep.m5 (Sep.m5 (Sep.m2 (Sep.m2 hS12)))))),by rw [xm hg23]; simp only [B0,reduceIte,reduceEqDiff],zf0,zf1,rfl⟩
 rintro fr24 h29 ⟨hS30,f25,f26,f27,f28⟩
 simp only [List.drop_succ_cons,List.drop_zero]
 simp only [zn,qrp,f25,ze,B0,reduceIte,reduceEqDiff]
 refine zf (t:=(x1.Stands&&(decide ((List.length e_0.Servers:Int)<(IntKind.wrap .i64 ((2:Int)*(List.length x1.Got:Int))))))) (fun hc31=>?_)
   (fun hc31=>?_)
 ·rw [iteT hc31] at hF3
  simp only [qsk,qg,qf,f28,qd,wx,qb,z9,qt,Nat.reduceAdd,Nat.zero_add,Nat.add_zero,q8,zl,B0,reduceIte,reduceEqDiff]
  refine y7 (n:=6) (us:=[.bool false]) (cs:=[.int .i64 x1.Term,.int .i64 x1.Voted,.bool x1.Stands,.bool x1.Leads,v13,v17]) (o:=2) (cs':=[.int .i64 x1.Term,
    .int .i64 x1.Voted,.bool false,.bool x1.Leads,v13,v17]) rfl hv9 rfl hx2 (Sep.m1 hS30) hW rfl rfl (nle rfl) rfl (fun c34 h32 hv35 hS33=>?_)
  simp only [qa,qxg,qg,qf,f28,qd,wx,qb,z9,qt,Nat.reduceAdd,Nat.zero_add,Nat.add_zero,q8,zl,B0,reduceIte,
    reduceEqDiff]
  refine y7 (n:=6) (us:=[.bool true]) (cs:=[.int .i64 x1.Term,.int .i64 x1.Voted,.bool false,.bool x1.Leads,v13,v17]) (o:=3) (cs':=[.int .i64 x1.Term,
    .int .i64 x1.Voted,.bool false,.bool true,v13,v17]) rfl hv35 rfl hx2 hS33 hW rfl rfl (nle rfl) rfl (fun c38 h36 hv39 hS37=>?_)
  simp only [qa,qvy,jv,f26,qfb,qr,jf,ku,z9,jc,Nat.reduceAdd,Nat.zero_add,Nat.add_zero,q8,ja,B0,reduceIte,
    reduceEqDiff]
  refine qw (v:=pv0_2) ((jh (Sep.bk _ _ _ (Sep.m1 hS37))).trans rfl) ?_
  simp only [f28,jf,qr,ku,z9,jc,Nat.reduceAdd,Nat.zero_add,Nat.add_zero,q8,ja,B0,reduceIte,reduceEqDiff]
  refine qw (v := .int .i64 x1.Term) ((SlG.ld (o:=0) hv39 rfl hx2 hS37 (nle rfl)).trans rfl) ?_
  simp only [f27,jf,qr,qci,evp,B0,reduceIte,reduceEqDiff]
  refine qw (v := .agg [.int .i64 x1.Term,.int .i64 k_1]) rfl ?_
  simp only [w6,evp,B0,reduceIte,reduceEqDiff]
  refine wh (n:=2) (f:=ql) [(Vote.mk x1.Term k_1)] hS37 rfl rfl (fun v41 c42 h43 hv44 hS45 hq40=>?_)
  simp only [qd2,B0,reduceIte,reduceEqDiff]
  obtain ⟨l47,hx48,hF49⟩:=qj hF3
  refine wv (f:=ql) ph0_2 (Sep.m4 hS45) hW (fun _=>rfl) (fun _=>rfl) (SlF.first hv44 hS45 (fun _=>rfl)) hx48 (fun v50 c51 h52 hv53 hS54=>?_)
  simp only [ku,qr,z9,jc,Nat.reduceAdd,Nat.zero_add,Nat.add_zero,q8,qbm,B0,reduceIte,reduceEqDiff]
  refine wa (us:=[v50]) (js (SlF.one hv53)) (cs':=[pv0_0,pv0_1,v50]) (Sep.m3 hS54) hW rfl (qq (SlF.one hv53) zo) (nle rfl) rfl (fun h56 hS57=>?_)
  simp only [zn,qn,B0,reduceIte,reduceEqDiff]
  obtain ⟨c58,hv59,hS60⟩:=SlG.cls (e':=(Server.mk x1.Term x1.Voted false true x1.Got x1.Log)) (c:=c38) (os:=c14++(c18)) hv39 rfl hx2 ju (Server.RI (x :=
    (Server.mk x1.Term x1.Voted false true x1.Got x1.Log)) hv15 hv19) (Sep.ni2 (c1:=c14) (c2:=c18) (Sep.m5 (Sep.m6 (Sep.m6 hS57))))
  have hx61:=wq (x':=(Server.mk x1.Term x1.Voted false true x1.Got x1.Log)) hx2
  have hv62:=SlG.toN hv59
  have he:=qk hF49
  subst he
  simp only [qhc,B0,reduceIte,reduceEqDiff]
  exact ⟨c58,pc0_1,v50,c51,by first | trivial | rfl,hv62,ph0_1,hv53,(Sep.m3 (Sep.m2 (Sep.m3 (Sep.m2 (Sep.dc (Sep.m3 hS60))))))⟩
 rw [iteF hc31] at hF3
 simp only [zi,qn,B0,reduceIte,reduceEqDiff]
 obtain ⟨c63,hv64,hS65⟩:=SlG.cls0 (c:=c6) (os:=c14++(c18)) hv9 rfl hx2 ju (Server.RI (x:=x1) hv15 hv19) (Sep.ni2 (c1:=c14) (c2:=c18) (Sep.m3 (Sep.m5
   (Sep.m5 hS30))))
 have hv66:=SlG.toN hv64
 have he:=qk hF3
 subst he
 simp only [qhc,B0,reduceIte,reduceEqDiff]
 exact ⟨c63,pc0_1,pv0_2,pc0_2,by first | trivial | rfl,hv66,ph0_1,ph0_2,(Sep.m3 (Sep.m2 (Sep.m3 (Sep.m3 hS65))))⟩
theorem qih {W:Nat→Bool}{h:Heap}{lo:Nat→Prop}{S0:List Obj} (hW:∀ b,
  lo b→W b=true) (pb0:Nat) (v_0:Election) (pv0_0:XV) (pc0_0:List Obj) (ph0_0:SlN Server.R 6 46 pv0_0 v_0.Servers pc0_0) (pv0_1:XV) (pc0_1:List Obj)
  (ph0_1:SlF qe 7 93 pv0_1 v_0.Post pc0_1) (pv0_2:XV) (pc0_2:List Obj) (ph0_2:SlF ql 2 39 pv0_2 v_0.Led pc0_2) (v_1:Int) (r:Bool × Election)
  (hF:uu v_0 v_1=some r) (hS:Sep h lo ([Blk1 pb0 [pv0_0,pv0_1,pv0_2] 31]++(pc0_0++(pc0_1++(pc0_2++(S0)))))) : Ret E W 94 [.ptr pb0 0,
  .int .i64 v_1] h (fun v h'=>∃ ic0_0 iv0_1 ic0_1 iv0_2 ic0_2,
  v = .bool r.1∧SlN Server.R 6 46 pv0_0 r.2.Servers ic0_0∧SlF qe 7 93 iv0_1 r.2.Post ic0_1∧SlF ql 2 39 iv0_2 r.2.Led ic0_2∧Sep h' lo ([Blk1 pb0 [pv0_0,
  iv0_1,iv0_2] 31]++(ic0_0++(ic0_1++(ic0_2++(S0)))))):=by
 refine Ret.of (fn:=x94) rfl (Run.of ?_)
 unfold uu at hF
 have zf0:zh [.ptr pb0 0,.int .i64 v_1] 0 = .ptr pb0 0:=rfl
 have zf1:zh [.ptr pb0 0,.int .i64 v_1] 1 = .int .i64 v_1:=rfl
 generalize zh [.ptr pb0 0,.int .i64 v_1]=fr0 at zf0 zf1 ⊢
 simp only [x94,qg,qf,qd,qa,qvn,zf0,wx,qb,z9,qt,Nat.reduceAdd,Nat.zero_add,Nat.add_zero,q8,qo,B0,
   reduceIte,reduceEqDiff]
 refine qh (v:=pv0_0) ((jh (Sep.bk _ _ _ hS)).trans rfl) ?_
 obtain ⟨x1,hx2,hF3⟩:=qj hF
 simp only [zf1,qd,jr,B0,reduceIte,reduceEqDiff]
 obtain ⟨b4,hb5⟩:=SlN.isrow ph0_0 (wg hx2)
 refine qh (SlN.ia ph0_0 hb5 hx2) ?_
 obtain ⟨c6,cs7,os8,hv9,hR10,hS11⟩:=SlG.opn (SlN.toG ph0_0 hb5 Server.RO.len) hx2 ju Server.RO.len (Sep.m1 hS)
 obtain ⟨v13,c14,v17,c18,hv15,hv19,rfl,rfl⟩:=hR10
 have hS12:=Sep.no2 hS11
 simp only [qd,qa,qu2,qg,jv,jf,qr,ku,z9,jc,Nat.reduceAdd,Nat.zero_add,Nat.add_zero,q8,ja,B0,reduceIte,
   reduceEqDiff]
 refine qw (v := .bool x1.Leads) ((SlG.ld (o:=3) hv9 rfl hx2 hS12 (nle rfl)).trans rfl) ?_
 simp only [jf,qr,B0,reduceIte,reduceEqDiff]
 refine qfv 6 (fun fr' h'=>Sep h' lo ([Blk1 pb0 [pv0_0,pv0_1,
   pv0_2] 31]++(c6++(pc0_1++(pc0_2++(c14++(c18++(S0)))))))∧fr' 23 = .bool (x1.Leads||(decide
   (x1.Term=100)))∧fr' 0 = .ptr pb0 0∧fr' 1 = .int .i64 v_1∧fr' 5 = .ptr b4 (v_1.toNat*6)) rfl (fun Q21 hN22=>?_) ?_
 ·simp only [List.take_succ_cons,List.take_zero]
  simp only [zc (g:=17),B0,reduceIte,reduceEqDiff]
  refine k7 (t:=x1.Leads) (fun hg23=>?_) (fun hg23=>?_)
  ·simp only [hg23,zc (g:=17),xd,kr,qr,zj,zn,qn,B0,reduceIte,reduceEqDiff]
   exact hN22 _ _ ⟨(Sep.m5 (Sep.m4 (Sep.m5 (Sep.m5 (Sep.m2 (Sep.m2 hS12)))))),by rw [orT hg23]; simp only [B0,reduceIte,reduceEqDiff],zf0,zf1,rfl⟩
  ·simp only [hg23,zc (g:=17),zu,jf,qr,ku,z9,jc,Nat.reduceAdd,Nat.zero_add,Nat.add_zero,q8,ja,B0,reduceIte,
    reduceEqDiff]
   refine qw (v := .int .i64 x1.Term) ((SlG.ld (o:=0) hv9 rfl hx2 hS12 (nle rfl)).trans rfl) ?_
   simp only [hg23,zc (g:=17),zu,uv,qr,yh,kr,zk,zn,qn,B0,reduceIte,reduceEqDiff]
   exact hN22 _ _ ⟨(Sep.m5 (Sep.m4 (Sep.m5 (Sep.m5 (Sep.m2 (Sep.m2 hS12)))))),by rw [orF hg23]; simp only [B0,reduceIte,reduceEqDiff],zf0,zf1,rfl⟩
 rintro fr24 h29 ⟨hS30,f25,f26,f27,f28⟩
 simp only [List.drop_succ_cons,List.drop_zero]
 simp only [f25,jf,qr,B0,reduceIte,reduceEqDiff]
 refine qfv 14 (fun fr' h'=>Sep h' lo ([Blk1 pb0 [pv0_0,pv0_1,
   pv0_2] 31]++(c6++(pc0_1++(pc0_2++(c14++(c18++(S0)))))))∧fr' 38 = .bool ((x1.Leads||(decide (x1.Term=100)))||(decide ((20:Int)<(IntKind.wrap .i64
   ((IntKind.wrap .i64 ((List.length v_0.Post:Int)+(List.length v_0.Servers:Int))) - 1)))))∧fr' 0 = .ptr pb0 0∧fr' 1 = .int .i64 v_1∧fr' 5 = .ptr b4
   (v_1.toNat*6)) rfl (fun Q31 hN32=>?_) ?_
 ·simp only [List.take_succ_cons,List.take_zero]
  simp only [zc (g:=24),B0,reduceIte,reduceEqDiff]
  refine k7 (t:=(x1.Leads||(decide (x1.Term=100)))) (fun hg33=>?_) (fun hg33=>?_)
  ·simp only [hg33,zc (g:=24),xd,kr,qr,zj,zn,qn,B0,reduceIte,reduceEqDiff]
   exact hN32 _ _ ⟨(Sep.m5 (Sep.m5 (Sep.m5 (Sep.m5 (Sep.m5 (Sep.m5 hS30)))))),by rw [orT hg33]; simp only [B0,reduceIte,reduceEqDiff],f26,f27,f28⟩
  ·simp only [hg33,zc (g:=24),zu,f26,jf,qr,ku,z9,jc,Nat.reduceAdd,Nat.zero_add,Nat.add_zero,q8,ja,B0,
    reduceIte,reduceEqDiff]
   refine qw (v:=pv0_1) ((jh (Sep.bk _ _ _ hS30)).trans rfl) ?_
   simp only [hg33,zc (g:=24),zu,qhl,qr,SlF.plen ph0_1,f26,jf,ku,z9,jc,Nat.reduceAdd,Nat.zero_add,Nat.add_zero,
     q8,ja,B0,reduceIte,reduceEqDiff]
   refine qw (v:=pv0_0) ((jh (Sep.bk _ _ _ hS30)).trans rfl) ?_
   simp only [hg33,zc (g:=24),zu,qhl,qr,SlG.plen hv9,uv,qam,qbd,xb,kr,zk,zn,qn,B0,reduceIte,
     reduceEqDiff]
   exact hN32 _ _ ⟨(Sep.m5 (Sep.m5 (Sep.m5 (Sep.m5 (Sep.m5 (Sep.m5 hS30)))))),by rw [orF hg33]; simp only [B0,reduceIte,reduceEqDiff],f26,f27,f28⟩
 rintro fr34 h39 ⟨hS40,f35,f36,f37,f38⟩
 simp only [List.drop_succ_cons,List.drop_zero]
 simp only [zn,f35,ze,B0,reduceIte,reduceEqDiff]
 refine zf (t:=((x1.Leads||(decide (x1.Term=100)))||(decide ((20:Int)<(IntKind.wrap .i64 ((IntKind.wrap .i64 ((List.length v_0.Post:Int) +
   (List.length v_0.Servers:Int))) - 1)))))) (fun hc41=>?_) (fun hc41=>?_)
 ·rw [iteT hc41] at hF3
  simp only [qg,qf,qd,qa,za,B0,reduceIte,reduceEqDiff]
  obtain ⟨c42,hv43,hS44⟩:=SlG.cls0 (c:=c6) (os:=c14++(c18)) hv9 rfl hx2 ju (Server.RI (x:=x1) hv15 hv19) (Sep.ni2 (c1:=c14) (c2:=c18) (Sep.m3 (Sep.m5
    (Sep.m5 hS40))))
  have hv45:=SlG.toN hv43
  have he:=qk hF3
  subst he
  simp only [zp,B0,reduceIte,reduceEqDiff]
  exact ⟨c42,pv0_1,pc0_1,pv0_2,pc0_2,by first | trivial | rfl,hv45,ph0_1,ph0_2,(Sep.m3 (Sep.m2 (Sep.m3 (Sep.m3 hS44))))⟩
 rw [iteF hc41] at hF3
 simp only [zi,quc,qg,qf,f38,qd,wx,qb,z9,qt,Nat.reduceAdd,Nat.zero_add,Nat.add_zero,q8,qo,B0,reduceIte,
   reduceEqDiff]
 refine qh (v := .int .i64 x1.Term) ((SlG.ld (o:=0) hv9 rfl hx2 (Sep.m1 hS40) (nle rfl)).trans rfl) ?_
 simp only [qx,qb,qam,wx,z9,qt,Nat.reduceAdd,Nat.zero_add,Nat.add_zero,q8,zl,B0,reduceIte,reduceEqDiff]
 refine y7 (n:=6) (us:=[.int .i64 (IntKind.wrap .i64 (x1.Term+1))]) (cs:=[.int .i64 x1.Term,.int .i64 x1.Voted,.bool x1.Stands,.bool x1.Leads,v13,
   v17]) (o:=0) (cs':=[.int .i64 (IntKind.wrap .i64 (x1.Term+1)),.int .i64 x1.Voted,.bool x1.Stands,.bool x1.Leads,v13,
   v17]) rfl hv9 rfl hx2 (Sep.m1 hS40) hW rfl rfl (nle rfl) rfl (fun c48 h46 hv49 hS47=>?_)
 simp only [qa,qum,qg,qf,f38,qd,wx,qb,z9,qt,Nat.reduceAdd,Nat.zero_add,Nat.add_zero,q8,zl,B0,reduceIte,
   reduceEqDiff]
 refine y7 (n:=6) (us:=[.bool true]) (cs:=[.int .i64 (IntKind.wrap .i64 (x1.Term+1)),.int .i64 x1.Voted,.bool x1.Stands,.bool x1.Leads,v13,
   v17]) (o:=2) (cs':=[.int .i64 (IntKind.wrap .i64 (x1.Term+1)),.int .i64 x1.Voted,.bool true,.bool x1.Leads,v13,
   v17]) rfl hv49 rfl hx2 hS47 hW rfl rfl (nle rfl) rfl (fun c52 h50 hv53 hS51=>?_)
 simp only [qa,qwo,qg,qf,f38,qd,f37,wx,qb,z9,qt,Nat.reduceAdd,Nat.zero_add,Nat.add_zero,q8,zl,B0,
   reduceIte,reduceEqDiff]
 refine y7 (n:=6) (us:=[.int .i64 v_1]) (cs:=[.int .i64 (IntKind.wrap .i64 (x1.Term+1)),.int .i64 x1.Voted,.bool true,.bool x1.Leads,v13,
   v17]) (o:=1) (cs':=[.int .i64 (IntKind.wrap .i64 (x1.Term+1)),.int .i64 v_1,.bool true,.bool x1.Leads,v13,
   v17]) rfl hv53 rfl hx2 hS51 hW rfl rfl (nle rfl) rfl (fun c56 h54 hv57 hS55=>?_)
 simp only [qa,q2p,qg,qf,f38,qd,f37,j8,evp,B0,reduceIte,reduceEqDiff]
 refine jy (n:=1) (f:=cI) [v_1] hS55 rfl rfl (fun v58 c59 h60 hv61 hS62=>?_)
 simp only [wx,qb,z9,qt,Nat.reduceAdd,Nat.zero_add,Nat.add_zero,q8,zl,B0,reduceIte,reduceEqDiff]
 refine y7 (n:=6) (us:=[v58]) (cs:=[.int .i64 (IntKind.wrap .i64 (x1.Term+1)),.int .i64 v_1,.bool true,.bool x1.Leads,v13,
   v17]) (o:=4) (cs':=[.int .i64 (IntKind.wrap .i64 (x1.Term+1)),.int .i64 v_1,.bool true,.bool x1.Leads,v58,
   v17]) (js (SlF.one hv61)) hv57 rfl hx2 (Sep.m1 hS62) hW rfl (qq (SlF.one hv61) zo) (nle rfl) rfl (fun c66 h64 hv67 hS65=>?_)
 simp only [qa,q2o,qg,qf,f36,qd,wx,qb,z9,qt,Nat.reduceAdd,Nat.zero_add,Nat.add_zero,q8,qo,B0,reduceIte,
   reduceEqDiff]
 refine qh (v:=pv0_0) ((jh (Sep.bk _ _ _ (Sep.m2 hS65))).trans rfl) ?_
 simp only [zr,qb,SlG.plen hv67,qd,qa,B0,reduceIte,reduceEqDiff]
 obtain ⟨c68,hv69,hS70⟩:=SlG.cls (e':=(Server.mk (IntKind.wrap .i64 (x1.Term+1)) v_1 true x1.Leads [v_1] x1.Log)) (c:=c66) (os:=c59++(c18)) hv67 rfl hx2 ju
   (Server.RI (x:=(Server.mk (IntKind.wrap .i64 (x1.Term+1)) v_1 true x1.Leads [v_1] x1.Log)) hv61 hv19) (Sep.ni2 (c1:=c59) (c2:=c18) (Sep.m2 (Sep.m2 (Sep.m6 hS65))))
 have hx71:=wq (x':=(Server.mk (IntKind.wrap .i64 (x1.Term+1)) v_1 true x1.Leads [v_1] x1.Log)) hx2
 have hv72:=SlG.toN hv69
 obtain ⟨oc91,hX93,hk94⟩:=kn hF3
 simp only [q3m]
 refine qf1 (σ:=Election × (List Server)) (fun i89 s157=>xg v_0 v_1 i89 s157.1 s157.2) (fun s fr' h'=>∃ v83 c84 c87,
   fr' 0 = .ptr pb0 0∧fr' 1 = .int .i64 v_1∧fr' 5 = .ptr b4 (v_1.toNat*6)∧SlF qe 7 93 v83 s.1.Post c84∧SlN Server.R 6 46 pv0_0 s.2 c87∧Sep h' lo
   ([Blk1 pb0 [pv0_0,v83,pv0_2] 31]++(c87++(c84++(pc0_2++(S0)))))) hX93 ⟨pv0_1,pc0_1,c68,f36,f37,f38,ph0_1,hv72,
   (Sep.m3 (Sep.m2 (Sep.m3 (Sep.m3 (Sep.dc (Sep.m4 hS70))))))⟩ (by simp only [B0,reduceIte,reduceEqDiff]) (by simp only [B0,reduceIte,
   reduceEqDiff]) (fun _ _ _ h=>h) rfl rfl (fun _ _ _ _ h=>h) (fun _ _ _ _ h=>h) (fun _ _ _ _ h=>h) (by decide) ?_ ?_
 ·rintro i89 ⟨s81,s86⟩ fr103 h104 hx109 ⟨v83,c84,c87,f106,f107,f108,hv85,hv88,hS105⟩ f110 f111 oc92 hF95 hr96 Q97 hN98 hB102 hK99 hR100 hE101
  dsimp only at *
  unfold xg at hF95
  simp only [q1w,qg,qf,f110,qd,qa,q5i,f107,qx,qb,qd1,q5o,ze,B0,reduceIte,reduceEqDiff]
  refine zf (t:=(decide ((i89:Int)≠v_1))) (fun hc112=>?_) (fun hc112=>?_)
  ·rw [iteT hc112] at hF95
   simp only [q1n,jv,f106,qfb,qr,qoo,z9,qbn,Nat.reduceAdd,Nat.zero_add,Nat.add_zero,q8,ue,B0,reduceIte,reduceEqDiff]
   refine qcw (Sep.ltk hS105) ?_
   refine qw (v:=v83) ((jh (Sep.bk _ _ _ hS105)).trans rfl) ?_
   obtain ⟨kp,hx114,hF115⟩:=qj hF95
   obtain ⟨c116,cs117,os118,hv119,hR120,hS121⟩:=SlG.opn (SlN.toG hv88 hb5 Server.RO.len) hx114 ju Server.RO.len (Sep.m1 hS105)
   obtain ⟨v123,c124,v127,c128,hv125,hv129,rfl,rfl⟩:=hR120
   have hS122:=Sep.no2 hS121
   simp only [qfb,qr,f107,f108,qoo,z9,qbn,Nat.reduceAdd,Nat.zero_add,Nat.add_zero,q8,ue,B0,reduceIte,reduceEqDiff]
   refine qcw (SlN.ltk hv88 hb5 (Sep.m1 hS105)) ?_
   refine qw (v := .int .i64 kp.Term) ((SlG.ld (o:=0) hv119 rfl hx114 hS122 (nle rfl)).trans rfl) ?_
   simp only [f108,jf,qr,ku,z9,jc,Nat.reduceAdd,Nat.zero_add,Nat.add_zero,q8,ja,B0,reduceIte,reduceEqDiff]
   refine qw (v:=v127) ((SlG.ld (o:=5) hv119 rfl hx114 hS122 (nle rfl)).trans rfl) ?_
   obtain ⟨v131,hx132,hF133⟩:=qj hF115
   simp only [ua,B0,reduceIte,reduceEqDiff]
   refine qjm rfl (qm (SlF.snap hv129 (Sep.m2 hS122) rfl (fun _=>rfl) (fun _=>rfl)) qz) (qbr (fun b hb=>decide_eq_true hb) kp.Log v131 hx132) ?_
   simp only [f108,qfb,qr,qoo,z9,qbn,Nat.reduceAdd,Nat.zero_add,Nat.add_zero,q8,ue,B0,reduceIte,reduceEqDiff]
   refine qcw (SlN.ltk hv88 hb5 (Sep.m1 hS105)) ?_
   refine qw (v:=v127) ((SlG.ld (o:=5) hv119 rfl hx114 hS122 (nle rfl)).trans rfl) ?_
   simp only [qk8,qr,SlF.plen hv129,qci,evp,B0,reduceIte,reduceEqDiff]
   refine qw (v := .agg [.int .i64 (i89:Int),.int .i64 v_1,.int .i64 kp.Term,.bool true,.int .i64 v131,.int .i64 (List.length kp.Log:Int),
     .bool false]) rfl ?_
   simp only [w6,evp,B0,reduceIte,reduceEqDiff]
   refine qev (n:=7) (f:=qe) [(Letter.mk (i89:Int) v_1 kp.Term true v131 (List.length kp.Log:Int) false)] hS122 rfl rfl
     (fun v134 c135 h136 hv137 hS138=>?_)
   simp only [qd2,B0,reduceIte,reduceEqDiff]
   obtain ⟨l140,hx141,hF142⟩:=qj hF133
   refine wv (f:=qe) hv85 (Sep.m5 hS138) hW (fun _=>rfl) (fun _=>rfl) (SlF.first hv137 hS138 (fun _=>rfl)) hx141 (fun v143 c144 h145 hv146 hS147=>?_)
   simp only [ku,qr,z9,jc,Nat.reduceAdd,Nat.zero_add,Nat.add_zero,q8,qbm,B0,reduceIte,reduceEqDiff]
   refine wa (us:=[v143]) (js (SlF.one hv146)) (cs':=[pv0_0,v143,
     pv0_2]) (Sep.m5 hS147) hW rfl (qq (SlF.one hv146) zo) (nle rfl) rfl (fun h149 hS150=>?_)
   simp only [zn,qn,B0,reduceIte,reduceEqDiff]
   obtain ⟨c151,hv152,hS153⟩:=SlG.cls0 (c:=c116) (os:=c124++(c128)) hv119 rfl hx114 ju (Server.RI (x:=kp) hv125 hv129) (Sep.ni2 (c1:=c124) (c2:=c128)
     (Sep.m5 (Sep.m5 (Sep.m5 hS150))))
   have hv154:=SlG.toN hv152
   have e155:=qk hF142
   exact hN98 _ _ _ e155.symm ⟨v143,c144,c151,f106,f107,f108,hv146,hv154,(Sep.m3 (Sep.m2 (Sep.m3 (Sep.m3 (Sep.dc (Sep.m3 hS153))))))⟩ (f110) (f111)
  rw [iteF hc112] at hF95
  simp only [zi,qn,B0,reduceIte,reduceEqDiff]
  have e156:=qk hF95
  exact hN98 _ _ _ e156.symm ⟨v83,c84,c87,f106,f107,f108,hv85,hv88,(Sep.m3 (Sep.m3 (Sep.m3 (Sep.m3 hS105))))⟩ (f110) (f111)
 rintro ⟨s158,s163⟩ fr166 h167 rfl ⟨v160,c161,c164,f169,f170,f171,hv162,hv165,hS168⟩
 dsimp only [jnO] at hk94
 dsimp only at *
 unfold qcm at hk94
 obtain ⟨v172,hx173,hF174⟩:=qj hk94
 simp only [q4r,qg,qf,f169,qd,f170,qv,B0,reduceIte,reduceEqDiff]
 refine kg rfl (qc7 hW pb0 (Election.mk s163 s158.Post v_0.Led) pv0_0 c164 hv165 v160 c161 hv162 pv0_2 pc0_2 ph0_2 v_1 v172 hx173 (Sep.m3 (Sep.m3 (Sep.m3
   (Sep.m3 hS168))))) ?_
 rintro _ h183 ⟨c175,c177,v179,c180,rfl,hv176,hv178,hv181,hS184⟩
 simp only [qa,qg,qf,qd,za,B0,reduceIte,reduceEqDiff]
 have he:=qk hF174
 subst he
 simp only [zp,B0,reduceIte,reduceEqDiff]
 exact ⟨c175,v160,c177,v179,c180,by first | trivial | rfl,hv176,hv178,hv181,(Sep.m3 (Sep.m3 (Sep.m3 (Sep.m3 hS184))))⟩
theorem qia {W:Nat→Bool}{h:Heap}{lo:Nat→Prop}{S0:List Obj} (hW:∀ b,
  lo b→W b=true) (pv0:XV) (pc0:List Obj) (s_0:List Letter) (ph0:SlF qe 7 93 pv0 s_0 pc0) (i_1:Int) (j_2:Int) (r:List Letter)
  (hF:qa7 s_0 i_1 j_2=some r) (hS:Sep h lo (pc0++S0)) : Ret E W 95 [pv0,.int .i64 i_1,.int .i64 j_2] h (fun v h'=>∃ rv0 rc0,
  v=rv0∧SlF qe 7 93 rv0 r rc0∧Sep h' lo (rc0++S0)):=q9y (f:=qe) (n:=7) (ty:=93) (bytes:=56) (z:=[(.int .i64 0),(.int .i64 0),
  (.int .i64 0),(.bool false),(.int .i64 0),(.int .i64 0),(.bool false)]) rfl (fun _=>rfl) (fun _=>rfl) rfl rfl rfl hW ph0 hF hS
theorem qho {W:Nat→Bool}{h:Heap} (hW:∀ b,
  (geL h.length) b→W b=true) (x_0:Int) (r:Bool) (hF:some (yq x_0)=some r) : Ret E W 122 [.int .i64 x_0] h
  (fun v h'=>cut h.length h' E.sz false 9 v=some (.bool r)):=by
 refine Ret.of (fn:=qqn) rfl (Run.of ?_)
 unfold yq at hF
 have zf0:zh [.int .i64 x_0] 0 = .int .i64 x_0:=rfl
 generalize zh [.int .i64 x_0]=fr0 at zf0 ⊢
 have hS:Sep h (geL h.length) []:=Sep.nil h
 simp only [qqn,qg,qf,qd,qa,qx2,zf0,qx,qb,qd1,za,B0,reduceIte,reduceEqDiff]
 have he:=qk hF
 subst he
 simp only [zp,B0,reduceIte,reduceEqDiff]
 exact rfl
theorem qmh {W:Nat→Bool}{h:Heap} (hW:∀ b,
  (geL h.length) b→W b=true) (x_0:Int) (y_1:Int) (r:Bool) (hF:some (qct x_0 y_1)=some r) : Ret E W 118 [.int .i64 x_0,
  .int .i64 y_1] h (fun v h'=>cut h.length h' E.sz false 9 v=some (.bool r)):=by
 refine Ret.of (fn:=qq5) rfl (Run.of ?_)
 unfold qct at hF
 have zf0:zh [.int .i64 x_0,.int .i64 y_1] 0 = .int .i64 x_0:=rfl
 have zf1:zh [.int .i64 x_0,.int .i64 y_1] 1 = .int .i64 y_1:=rfl
 generalize zh [.int .i64 x_0,.int .i64 y_1]=fr0 at zf0 zf1 ⊢
 have hS:Sep h (geL h.length) []:=Sep.nil h
 simp only [qq5,qg,qf,qd,qa,qth,zf0,qv,B0,reduceIte,reduceEqDiff]
 refine je rfl (qm zb qz) (qho (fun b hb=>decide_eq_true hb) x_0 _ rfl) ?_
 simp only [qd,B0,reduceIte,reduceEqDiff]
 refine z7 4 (fun fr' h'=>Sep h' (geL h.length) ([])∧fr' 11 = .bool ((yq x_0)&&(!(yq y_1)))∧fr' 0 = .int .i64 x_0∧fr' 1 = .int .i64 y_1)
   (fun Q1 hN2=>?_) ?_
 ·simp only [List.take_succ_cons,List.take_zero]
  simp only [qc (g:=7),B0,reduceIte,reduceEqDiff]
  refine qy (t:=(yq x_0)) (fun hg3=>?_) (fun hg3=>?_)
  ·simp only [hg3,qc (g:=7),zg,zf1,qd,qv,B0,reduceIte,reduceEqDiff]
   refine je rfl (qm zb qz) (qho (fun b hb=>decide_eq_true hb) y_1 _ rfl) ?_
   simp only [hg3,qc (g:=7),zg,jj,qb,j9,qs,zj,qa,qn,B0,reduceIte,reduceEqDiff]
   exact hN2 _ _ ⟨hS,by rw [xl hg3]; simp only [B0,reduceIte,reduceEqDiff],zf0,zf1⟩
  ·simp only [hg3,qc (g:=7),jl,qs,qb,zk,qa,qn,B0,reduceIte,reduceEqDiff]
   exact hN2 _ _ ⟨hS,by rw [xm hg3]; simp only [B0,reduceIte,reduceEqDiff],zf0,zf1⟩
 rintro fr4 h8 ⟨hS9,f5,f6,f7⟩
 simp only [List.drop_succ_cons,List.drop_zero]
 simp only [f5,qd,B0,reduceIte,reduceEqDiff]
 refine z7 4 (fun fr' h'=>Sep h' (geL h.length) ([])∧fr' 16 = .bool (((yq x_0)&&(!(yq y_1)))||(decide (x_0<y_1)))) (fun Q10 hN11=>?_) ?_
 ·simp only [List.take_succ_cons,List.take_zero]
  simp only [qc (g:=12),B0,reduceIte,reduceEqDiff]
  refine qy (t:=((yq x_0)&&(!(yq y_1)))) (fun hg12=>?_) (fun hg12=>?_)
  ·simp only [hg12,qc (g:=12),zq,qs,qb,zj,qa,qn,B0,reduceIte,reduceEqDiff]
   exact hN11 _ _ ⟨hS9,by rw [orT hg12]; simp only [B0,reduceIte,reduceEqDiff]⟩
  ·simp only [hg12,qc (g:=12),qp,f6,qd,f7,qx,qb,qdj,qs,zk,qa,qn,B0,reduceIte,reduceEqDiff]
   exact hN11 _ _ ⟨hS9,by rw [orF hg12]; simp only [B0,reduceIte,reduceEqDiff]⟩
 rintro fr13 h15 ⟨hS16,f14⟩
 simp only [List.drop_succ_cons,List.drop_zero]
 simp only [f14,qd,qa,za,B0,reduceIte,reduceEqDiff]
 have he:=qk hF
 subst he
 simp only [zp,B0,reduceIte,reduceEqDiff]
 exact rfl
theorem qgh {W:Nat→Bool}{h:Heap} (hW:∀ b,
  (geL h.length) b→W b=true) (x_0:Int) (r:Bool) (hF:some (ws x_0)=some r) : Ret E W 119 [.int .i64 x_0] h
  (fun v h'=>cut h.length h' E.sz false 9 v=some (.bool r)):=by
 refine Ret.of (fn:=qq9) rfl (Run.of ?_)
 unfold ws at hF
 have zf0:zh [.int .i64 x_0] 0 = .int .i64 x_0:=rfl
 generalize zh [.int .i64 x_0]=fr0 at zf0 ⊢
 have hS:Sep h (geL h.length) []:=Sep.nil h
 simp only [qq9,qg,qf,qd,qa,qxs,zf0,qx,qb,qd1,za,B0,reduceIte,reduceEqDiff]
 have he:=qk hF
 subst he
 simp only [zp,B0,reduceIte,reduceEqDiff]
 exact rfl
theorem qg2 {W:Nat→Bool}{h:Heap} (hW:∀ b,
  (geL h.length) b→W b=true) (k:Nat) (x_0:List Int) (target_1:Int) (r:Int × Bool) (hF:y8 k x_0 target_1=some r) : Ret E W 114 [lst cI x_0,
  .int .i64 target_1] h (fun v h'=>cut h.length h' E.sz false 9 v=some (.tup [.int .i64 r.1,.bool r.2])):=by
 refine Ret.of (fn:=qqh) rfl (Run.of ?_)
 unfold y8 at hF
 have zf0:zh [lst cI x_0,.int .i64 target_1] 0=lst cI x_0:=rfl
 have zf1:zh [lst cI x_0,.int .i64 target_1] 1 = .int .i64 target_1:=rfl
 generalize zh [lst cI x_0,.int .i64 target_1]=fr0 at zf0 zf1 ⊢
 have hS:Sep h (geL h.length) []:=Sep.nil h
 simp only [qqh,qg,qf,qd,qa,qqa,zf0,zr,qb,zx,qwj,qt1,B0,reduceIte,reduceEqDiff]
 obtain ⟨oc7,hX9,hk10⟩:=kn hF
 simp only [qs3]
 refine qg4 (σ:=Int × Int) (fun s36=>we x_0 target_1 s36.1 s36.2)
   (fun s fr' h'=>fr' 0=lst cI x_0∧fr' 1 = .int .i64 target_1∧fr' 6 = .int .i64 (List.length x_0:Int)∧fr' 7 = .int .i64 s.1∧fr' 8 = .int .i64 s.2∧Sep h'
   (geL h.length) ([])) hX9 ⟨zf0,zf1,rfl,rfl,rfl,hS⟩ (fun _ _ _ h=>h) ?_ ?_
 ·rintro ⟨s3,s4⟩ fr19 h20 ⟨f22,f23,f24,f25,f26,hS21⟩ oc8 hF11 hr12 Q13 hN14 hK15 hR16 hE17
  dsimp only at *
  unfold we at hF11
  simp only [qsz,qg,qf,f25,qd,f26,qx,qb,qdj,qa,ze,B0,reduceIte,reduceEqDiff]
  refine zf (t:=(decide (s3<s4))) (fun hc28=>?_) (fun hc28=>?_)
  ·rw [iteT hc28] at hF11
   obtain ⟨x29,hx30,hF31⟩:=qj hF11
   simp only [zi,qv2,qaa,qta,qg,qf,f25,qd,f26,qx,qb,qam,qml,qkz,qpm (n:=1) (by decide),qa,
     qsw,f22,jr,B0,reduceIte,reduceEqDiff]
   refine qh (v := .ref (cI x29) 0) (yl hx30 rfl) ?_
   simp only [qo,B0,reduceIte,reduceEqDiff]
   refine qh (v := .int .i64 x29) rfl ?_
   simp only [f23,qd,qv,B0,reduceIte,reduceEqDiff]
   refine je rfl (qm zb (qm zb qz)) (qmh (fun b hb=>decide_eq_true hb) x29 target_1 _ rfl) ?_
   simp only [qa,qt8,ze,B0,reduceIte,reduceEqDiff]
   refine zf (t:=(qct x29 target_1)) (fun hc32=>?_) (fun hc32=>?_)
   ·rw [iteT hc32] at hF31
    simp only [qf,qd,qx,qb,qam,qa,um,qn,B0,reduceIte,reduceEqDiff]
    have e33:=qk hF31
    exact hN14 _ _ _ e33.symm ⟨f22,f23,f24,rfl,f26,hS21⟩
   rw [iteF hc32] at hF31
   simp only [qf,qd,qa,um,qn,B0,reduceIte,reduceEqDiff]
   have e34:=qk hF31
   exact hN14 _ _ _ e34.symm ⟨f22,f23,f24,f25,rfl,hS21⟩
  rw [iteF hc28] at hF11
  simp only [qdz,qc9,qe4,B0,reduceIte,reduceEqDiff]
  have e35:=qk hF11
  exact hK15 _ _ _ e35.symm ⟨f22,f23,f24,f25,f26,hS21⟩
 rintro ⟨s37,s38⟩ fr39 h40 rfl ⟨f42,f43,f44,f45,f46,hS41⟩
 dsimp only [jnO] at hk10
 dsimp only at *
 unfold qat at hk10
 simp only [qvk,qg,qf,f45,qd,f44,qx,qb,qdj,B0,reduceIte,reduceEqDiff]
 obtain ⟨v50,hx51,hF52⟩:=qj hk10
 refine z7 18 (fun fr' h'=>Sep h' (geL h.length) ([])∧fr' 53 = .bool v50∧fr' 31 = .int .i64 s37) (fun Q47 hN48=>?_) ?_
 ·simp only [List.take_succ_cons,List.take_zero]
  simp only [qc (g:=35),B0,reduceIte,reduceEqDiff]
  refine qy (t:=(decide (s37<(List.length x_0:Int)))) (fun hg49=>?_) (fun hg49=>?_)
  ·rw [iteT hg49] at hx51
   obtain ⟨x53,hx54,hF55⟩:=qj hx51
   simp only [hg49,qc (g:=35),zg,f42,qd,f45,jr,B0,reduceIte,reduceEqDiff]
   refine qh (v := .ref (cI x53) 0) (yl hx54 rfl) ?_
   simp only [hg49,qc (g:=35),zg,qo,B0,reduceIte,reduceEqDiff]
   refine qh (v := .int .i64 x53) rfl ?_
   simp only [hg49,qc (g:=35),zg,f43,qd,qx,qb,yh,B0,reduceIte,reduceEqDiff]
   obtain ⟨v59,hx60,hF61⟩:=qj hF55
   refine z7 10 (fun fr' h'=>Sep h' (geL h.length) ([])∧fr' 52 = .bool v59∧fr' 31 = .int .i64 s37∧fr' 35 = .bool (decide (s37<(List.length x_0:Int))))
     (fun Q56 hN57=>?_) ?_
   ·simp only [List.take_succ_cons,List.take_zero]
    simp only [qc (g:=42),B0,reduceIte,reduceEqDiff]
    refine qy (t:=(decide (x53=target_1))) (fun hg58=>?_) (fun hg58=>?_)
    ·rw [iteT hg58] at hx60
     simp only [hg58,qc (g:=42),zq,qc (g:=48),ym,hg49,qc (g:=35),zg,qs,qb,zj,qa,
       qn,B0,reduceIte,reduceEqDiff]
     have e62:=qk hx60
     exact hN57 _ _ ⟨hS41,by rw [←e62]; simp only [B0,reduceIte,reduceEqDiff],rfl,by simp only [hg49,B0,reduceIte,reduceEqDiff]⟩
    ·rw [iteF hg58] at hx60
     obtain ⟨x63,hx64,hF65⟩:=qj hx60
     simp only [hg58,qc (g:=42),qp,f42,qd,f45,jr,B0,reduceIte,reduceEqDiff]
     refine qh (v := .ref (cI x63) 0) (yl hx64 rfl) ?_
     simp only [hg58,qc (g:=42),qp,qo,B0,reduceIte,reduceEqDiff]
     refine qh (v := .int .i64 x63) rfl ?_
     simp only [hg58,qc (g:=42),qp,qv,B0,reduceIte,reduceEqDiff]
     refine je rfl (qm zb qz) (qgh (fun b hb=>decide_eq_true hb) x63 _ rfl) ?_
     simp only [hg58,qc (g:=42),qp,qd,B0,reduceIte,reduceEqDiff]
     refine z7 3 (fun fr' h'=>Sep h' (geL h.length) ([])∧fr' 51 = .bool ((ws x63) &&
       (ws target_1))∧fr' 31 = .int .i64 s37∧fr' 35 = .bool (decide (s37<(List.length x_0:Int)))∧fr' 42 = .bool (decide (x53=target_1)))
       (fun Q66 hN67=>?_) ?_
     ·simp only [List.take_succ_cons,List.take_zero]
      simp only [qc (g:=48),B0,reduceIte,reduceEqDiff]
      refine qy (t:=(ws x63)) (fun hg68=>?_) (fun hg68=>?_)
      ·simp only [hg68,qc (g:=48),zg,f43,qd,qv,B0,reduceIte,reduceEqDiff]
       refine je rfl (qm zb qz) (qgh (fun b hb=>decide_eq_true hb) target_1 _ rfl) ?_
       simp only [hg58,qc (g:=42),qp,hg68,qs,qb,zj,qa,qn,B0,reduceIte,reduceEqDiff]
       exact hN67 _ _ ⟨hS41,by rw [xl hg68]; simp only [B0,reduceIte,reduceEqDiff],rfl,by simp only [hg49,B0,reduceIte,reduceEqDiff],by simp only [hg58,B0,
         reduceIte,reduceEqDiff]⟩
      ·simp only [hg68,qc (g:=48),jl,hg58,qc (g:=42),qp,qs,qb,zk,qa,qn,B0,reduceIte,
        reduceEqDiff]
       exact hN67 _ _ ⟨hS41,by rw [xm hg68]; simp only [B0,reduceIte,reduceEqDiff],rfl,by simp only [hg49,B0,reduceIte,reduceEqDiff],by simp only [hg58,B0,
         reduceIte,reduceEqDiff]⟩
     rintro fr69 h74 ⟨hS75,f70,f71,f72,f73⟩
     simp only [List.drop_succ_cons,List.drop_zero]
     simp only [f72,hg49,qc (g:=35),zg,f73,hg58,qs,qb,zk,f70,qa,qn,B0,reduceIte,reduceEqDiff]
     have e76:=qk hF65
     exact hN57 _ _ ⟨hS75,by rw [←e76]; simp only [B0,reduceIte,reduceEqDiff],f71,by simp only [f72,hg49,B0,reduceIte,reduceEqDiff]⟩
   rintro fr77 h81 ⟨hS82,f78,f79,f80⟩
   simp only [List.drop_succ_cons,List.drop_zero]
   simp only [f80,hg49,qs,qb,zj,f78,qa,qn,B0,reduceIte,reduceEqDiff]
   have e83:=qk hF61
   exact hN48 _ _ ⟨hS82,by rw [←e83]; simp only [B0,reduceIte,reduceEqDiff],f79⟩
  ·rw [iteF hg49] at hx51
   simp only [hg49,qc (g:=35),jl,qc (g:=42),ym,qc (g:=48),qs,qb,zk,qa,qn,B0,reduceIte,
     reduceEqDiff]
   have e84:=qk hx51
   exact hN48 _ _ ⟨hS41,by rw [←e84]; simp only [B0,reduceIte,reduceEqDiff],rfl⟩
 rintro fr85 h88 ⟨hS89,f86,f87⟩
 simp only [List.drop_succ_cons,List.drop_zero]
 simp only [f87,qd,f86,qa,za,B0,reduceIte,reduceEqDiff]
 have he:=qk hF52
 subst he
 simp only [wj,B0,reduceIte,reduceEqDiff]
 exact uz (qm rfl (qm rfl qz))
end Go.Proofs.Ytpddolihbnfahaa.X
