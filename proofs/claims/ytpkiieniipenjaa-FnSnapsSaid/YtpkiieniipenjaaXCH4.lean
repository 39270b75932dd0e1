/- The functions' code comes to what the plain functions say (4). -/
import Derived.Test.YtpkiieniipenjaaXCH3
set_option linter.unusedVariables false
set_option linter.unusedSimpArgs false
set_option maxRecDepth 100000
namespace Go.Proofs.Ytpkiieniipenjaa.X
open Go
open Nat (reduceEqDiff)
theorem qg3 {W:Nat→Bool}{h:Heap}{lo:Nat→Prop}{S0:List Obj} (hW:∀ b,
  lo b→W b=true) (k:Nat) (pb0:Nat) (c_0:L1Cur) (procs_1:Int) (r:(List SnapStep) × L1Cur) (hF:ul k c_0 procs_1=some r) (hS:Sep h lo
  ([Blk1 pb0 [lst cU8 c_0.code,.int .i64 c_0.at_,.int .u64 c_0.seed] 64]++(S0))) : Ret E W 38 [.ptr pb0 0,.int .i64 procs_1] h (fun v h'=>∃ rv0 rc0,
  v=rv0∧SlF SnapStep.cells 3 51 rv0 r.1 rc0∧Sep h' lo (rc0++([Blk1 pb0 [lst cU8 r.2.code,.int .i64 r.2.at_,.int .u64 r.2.seed] 64]++(S0)))):=by
 refine Ret.of (fn:=x38) rfl (Run.of ?_)
 unfold ul at hF
 have zf0:zh [.ptr pb0 0,.int .i64 procs_1] 0 = .ptr pb0 0:=rfl
 have zf1:zh [.ptr pb0 0,.int .i64 procs_1] 1 = .int .i64 procs_1:=rfl
 generalize zh [.ptr pb0 0,.int .i64 procs_1]=fr0 at zf0 zf1 ⊢
 obtain ⟨v1,hx2,hF3⟩:=qg hF
 simp only [x38,qd,qc,qe,qa,qsv,qrm,zf0,zd,B0,reduceIte,reduceEqDiff]
 refine yp rfl (wg hW pb0 c_0 40 v1 hx2 hS) ?_
 rintro _ h4 ⟨rfl,hS5⟩
 obtain ⟨v6,hx7,hF8⟩:=qg hF3
 simp only [qe,qa,qr2,qd,qc,zf0,zd,B0,reduceIte,reduceEqDiff]
 refine yp rfl (qih hW pb0 v1.2 12 v6 hx7 hS5) ?_
 rintro _ h9 ⟨rfl,hS10⟩
 simp only [qa,q20,zc,B0,reduceIte,reduceEqDiff]
 obtain ⟨sv16,hX14,hk15⟩:=qg hF8
 refine u5 (t:=v6.1) (fun fr' h'=>fr' 0 = .ptr pb0 0∧fr' 1 = .int .i64 procs_1∧fr' 5 = .nil∧fr' 6 = .int .i64 sv16.1∧Sep h' lo ([Blk1 pb0 [lst cU8 sv16.2.code,
   .int .i64 sv16.2.at_,.int .u64 sv16.2.seed] 64]++(S0))) (fun Q17 hN18 hR19 hE20=>⟨fun hc21=>?_,fun hc21=>?_⟩) ?_
 ·rw [iteT hc21] at hX14
  obtain ⟨v22,hx23,hF24⟩:=qg hX14
  simp only [qyq,qc,zf0,qe,zd,B0,reduceIte,reduceEqDiff]
  refine yp rfl (wg hW pb0 v6.2 12 v22 hx23 hS10) ?_
  rintro _ h25 ⟨rfl,hS26⟩
  simp only [zf,qb,yz,qe,qa,qo,B0,reduceIte,reduceEqDiff]
  have e27:=qk hF24
  subst e27
  exact hN18 _ _ ⟨zf0,zf1,rfl,rfl,hS26⟩
 ·rw [iteF hc21] at hX14
  simp only [zg,qo,B0,reduceIte,reduceEqDiff]
  have e28:=qk hX14
  subst e28
  exact hN18 _ _ ⟨zf0,zf1,rfl,rfl,hS10⟩
 rintro fr29 h30 ⟨f32,f33,f34,f35,hS31⟩
 obtain ⟨s11,s12⟩:=sv16
 dsimp only at *
 unfold qdf at hk15
 simp only [qq5,qd,qc,f33,qe,zf,qb,qi4,qln,yz,qa,qq8,B0,reduceIte,reduceEqDiff]
 obtain ⟨oc52,hX54,hk55⟩:=jp hk15
 simp only [qr6]
 refine qe9 (σ:=(List SnapStep) × Int × L1Cur) (fun s225=>xb procs_1 s225.1 s225.2.1 s225.2.2) (fun s fr' h'=>∃ v45 c46,
   fr' 0 = .ptr pb0 0∧fr' 1 = .int .i64 procs_1∧fr' 5=v45∧fr' 6 = .int .i64 s.2.1∧fr' 7 = .int .i64 (IntKind.wrap .i64 ((IntKind.wrap .i64 (procs_1 *
   (IntKind.wrap .i64 (procs_1 - 1))))+1))∧SlF SnapStep.cells 3 51 v45 s.1 c46∧Sep h' lo ([Blk1 pb0 [lst cU8 s.2.2.code,.int .i64 s.2.2.at_,
   .int .u64 s.2.2.seed] 64]++(c46++(S0)))) hX54 ⟨.nil,[],f32,f33,f34,f35,rfl,SlF.nil,(hS31:Sep _ lo ([Blk1 pb0 [lst cU8 s12.code,.int .i64 s12.at_,
   .int .u64 s12.seed] 64]++(S0)))⟩ (fun _ _ _ h=>h) ?_ ?_
 ·rintro ⟨s43,s48,s49⟩ fr64 h65 ⟨v45,c46,f67,f68,f69,f70,f71,hv47,hS66⟩ oc53 hF56 hr57 Q58 hN59 hK60 hR61 hE62
  dsimp only at *
  unfold xb at hF56
  simp only [qup,qd,qc,f70,qe,zf,qb,qe7,qa,zc,B0,reduceIte,reduceEqDiff]
  refine zb (t:=(decide ((0:Int)<s48))) (fun hc73=>?_) (fun hc73=>?_)
  ·rw [iteT hc73] at hF56
   simp only [zg,qtw,qd,xn,qvy,qc,f67,qe,kx,evp,B0,reduceIte,reduceEqDiff]
   refine k8 (n:=1) (f:=cI) [1,1,2,2,2,2,2] hS66 rfl rfl (fun v74 c75 h76 hv77 hS78=>?_)
   obtain ⟨v80,hx81,hF82⟩:=qg hF56
   simp only [zd,B0,reduceIte,reduceEqDiff]
   refine yp rfl (qgw hW pb0 s49 v74 c75 [1,1,2,2,2,2,2] hv77 v80 hx81 (Sep.m1 hS78)) ?_
   rintro _ h85 ⟨c83,rfl,hv84,hS86⟩
   obtain ⟨v87,hx88,hF89⟩:=qg hF82
   simp only [f67,qe,f71,zd,B0,reduceIte,reduceEqDiff]
   refine yp rfl (wg hW pb0 v80.2.1 (IntKind.wrap .i64 ((IntKind.wrap .i64 (procs_1*(IntKind.wrap .i64 (procs_1 - 1))))+1)) v87 hx88 hS86) ?_
   rintro _ h90 ⟨rfl,hS91⟩
   simp only [run_build,evp,B0,reduceIte,reduceEqDiff]
   refine qh (v := .agg [.int .i64 v80.1,.int .i64 v87.1,.int .i64 0]) rfl ?_
   simp only [jb,B0,reduceIte,reduceEqDiff]
   refine zv hS91 (fun b92 h93 hS94=>?_)
   simp only [zj,B0,reduceIte,reduceEqDiff]
   refine qx (us:=[.int .i64 v80.1,.int .i64 v87.1,.int .i64 0]) rfl (cs':=[.int .i64 v80.1,.int .i64 v87.1,
     .int .i64 0]) hS94 hW rfl rfl (Nat.le_of_ble_eq_true rfl) rfl (fun h96 hS97=>?_)
   simp only [qa,qvt,qd,qc,qt,qb,Nat.reduceAdd,Nat.zero_add,Nat.add_zero,qu,qp,B0,reduceIte,reduceEqDiff]
   refine qh (v := .int .i64 v80.1) ((jj (Sep.bk _ _ _ hS97)).trans rfl) ?_
   simp only [zf,qb,wi,qa,qze,zc,B0,reduceIte,reduceEqDiff]
   obtain ⟨sv103,hX101,hk102⟩:=qg hF89
   refine u5 (t:=(decide (v80.1=1))) (fun fr' h'=>fr' 0 = .ptr pb0 0∧fr' 1 = .int .i64 procs_1∧fr' 5=v45∧fr' 6 = .int .i64 s48∧fr' 7 = .int .i64
     (IntKind.wrap .i64 ((IntKind.wrap .i64 (procs_1*(IntKind.wrap .i64 (procs_1 - 1))))+1))∧fr' 8 = .ptr b92 0∧Sep h' lo ([Blk1 pb0 [lst cU8 sv103.1.code,
     .int .i64 sv103.1.at_,.int .u64 sv103.1.seed] 64]++(c46++([Blk1 b92 [.int .i64 sv103.2.Kind,.int .i64 sv103.2.K,
     .int .i64 sv103.2.N] 51]++(S0))))) (fun Q104 hN105 hR106 hE107=>⟨fun hc108=>?_,fun hc108=>?_⟩) ?_
   ·rw [iteT hc108] at hX101
    obtain ⟨v109,hx110,hF111⟩:=qg hX101
    simp only [qx6,qc,f67,qe,zd,B0,reduceIte,reduceEqDiff]
    refine yp rfl (wg hW pb0 v87.2 9 v109 hx110 (Sep.m1 hS97)) ?_
    rintro _ h112 ⟨rfl,hS113⟩
    simp only [zf,qb,yz,qt,Nat.reduceAdd,Nat.zero_add,Nat.add_zero,qu,zj,B0,reduceIte,reduceEqDiff]
    refine qx (us:=[.int .i64 (IntKind.wrap .i64 ((1:Int)+v109.1))]) rfl (cs':=[.int .i64 v80.1,.int .i64 v87.1,
      .int .i64 (IntKind.wrap .i64 ((1:Int)+v109.1))]) (Sep.m1 hS113) hW rfl rfl (Nat.le_of_ble_eq_true rfl) rfl (fun h114 hS115=>?_)
    simp only [qa,qo,B0,reduceIte,reduceEqDiff]
    have e116:=qk hF111
    subst e116
    exact hN105 _ _ ⟨f67,f68,f69,f70,f71,rfl,(Sep.m2 (Sep.m2 (Sep.dc (Sep.m2 hS115))))⟩
   ·rw [iteF hc108] at hX101
    simp only [zg,qo,B0,reduceIte,reduceEqDiff]
    have e117:=qk hX101
    subst e117
    exact hN105 _ _ ⟨f67,f68,f69,f70,f71,rfl,(Sep.m2 (Sep.m2 (Sep.dc (Sep.m2 hS97))))⟩
   rintro fr118 h119 ⟨f121,f122,f123,f124,f125,f126,hS120⟩
   obtain ⟨s98,s99⟩:=sv103
   dsimp only at *
   unfold qbe at hk102
   obtain ⟨v127,hx128,hF129⟩:=qg hk102
   simp only [qsn,qd,qc,f121,qe,zd,B0,reduceIte,reduceEqDiff]
   refine yp rfl (qih hW pb0 s98 12 v127 hx128 hS120) ?_
   rintro _ h130 ⟨rfl,hS131⟩
   simp only [qa,q0r,zc,B0,reduceIte,reduceEqDiff]
   obtain ⟨sv137,hX135,hk136⟩:=qg hF129
   refine u5 (t:=v127.1) (fun fr' h'=>fr' 0 = .ptr pb0 0∧fr' 1 = .int .i64 procs_1∧fr' 5=v45∧fr' 6 = .int .i64 s48∧fr' 7 = .int .i64 (IntKind.wrap .i64
     ((IntKind.wrap .i64 (procs_1*(IntKind.wrap .i64 (procs_1 - 1))))+1))∧fr' 8 = .ptr b92 0∧Sep h' lo ([Blk1 pb0 [lst cU8 sv137.1.code,.int .i64 sv137.1.at_,
     .int .u64 sv137.1.seed] 64]++(c46++([Blk1 b92 [.int .i64 sv137.2.Kind,.int .i64 sv137.2.K,
     .int .i64 sv137.2.N] 51]++(S0))))) (fun Q138 hN139 hR140 hE141=>⟨fun hc142=>?_,fun hc142=>?_⟩) ?_
   ·rw [iteT hc142] at hX135
    obtain ⟨v143,hx144,hF145⟩:=qg hX135
    simp only [q18,qc,f121,qe,f122,zd,B0,reduceIte,reduceEqDiff]
    refine yp rfl (wg hW pb0 v127.2 procs_1 v143 hx144 hS131) ?_
    rintro _ h146 ⟨rfl,hS147⟩
    simp only [run_build,evp,B0,reduceIte,reduceEqDiff]
    refine qh (v := .agg [.int .i64 3,.int .i64 v143.1,.int .i64 0]) rfl ?_
    simp only [f126,zj,B0,reduceIte,reduceEqDiff]
    refine qx (us:=[.int .i64 3,.int .i64 v143.1,.int .i64 0]) rfl (cs':=[.int .i64 3,.int .i64 v143.1,
      .int .i64 0]) (Sep.m2 hS147) hW rfl rfl (Nat.le_of_ble_eq_true rfl) rfl (fun h148 hS149=>?_)
    simp only [qa,qo,B0,reduceIte,reduceEqDiff]
    have e150:=qk hF145
    subst e150
    exact hN139 _ _ ⟨f121,f122,f123,f124,f125,f126,(Sep.m2 (Sep.m2 hS149))⟩
   ·rw [iteF hc142] at hX135
    simp only [zg,qo,B0,reduceIte,reduceEqDiff]
    have e151:=qk hX135
    subst e151
    exact hN139 _ _ ⟨f121,f122,f123,f124,f125,f126,(Sep.m2 (Sep.m2 (Sep.m2 hS131)))⟩
   rintro fr152 h153 ⟨f155,f156,f157,f158,f159,f160,hS154⟩
   obtain ⟨s132,s133⟩:=sv137
   dsimp only at *
   unfold qbg at hk136
   obtain ⟨v161,hx162,hF163⟩:=qg hk136
   simp only [qr3,qd,qc,f155,qe,zd,B0,reduceIte,reduceEqDiff]
   refine yp rfl (qih hW pb0 s132 60 v161 hx162 hS154) ?_
   rintro _ h164 ⟨rfl,hS165⟩
   simp only [qa,q0b,zc,B0,reduceIte,reduceEqDiff]
   obtain ⟨sv171,hX169,hk170⟩:=qg hF163
   refine u5 (t:=v161.1) (fun fr' h'=>fr' 0 = .ptr pb0 0∧fr' 1 = .int .i64 procs_1∧fr' 5=v45∧fr' 6 = .int .i64 s48∧fr' 7 = .int .i64 (IntKind.wrap .i64
     ((IntKind.wrap .i64 (procs_1*(IntKind.wrap .i64 (procs_1 - 1))))+1))∧fr' 8 = .ptr b92 0∧Sep h' lo ([Blk1 pb0 [lst cU8 sv171.1.code,.int .i64 sv171.1.at_,
     .int .u64 sv171.1.seed] 64]++(c46++([Blk1 b92 [.int .i64 sv171.2.Kind,.int .i64 sv171.2.K,
     .int .i64 sv171.2.N] 51]++(S0))))) (fun Q172 hN173 hR174 hE175=>⟨fun hc176=>?_,fun hc176=>?_⟩) ?_
   ·rw [iteT hc176] at hX169
    obtain ⟨v177,hx178,hF179⟩:=qg hX169
    simp only [q2j,qc,f155,qe,zd,B0,reduceIte,reduceEqDiff]
    refine yp rfl (wg hW pb0 v161.2 5 v177 hx178 hS165) ?_
    rintro _ h180 ⟨rfl,hS181⟩
    obtain ⟨v182,hx183,hF184⟩:=qg hF179
    simp only [f155,qe,zd,B0,reduceIte,reduceEqDiff]
    refine yp rfl (wg hW pb0 v177.2 14 v182 hx183 hS181) ?_
    rintro _ h185 ⟨rfl,hS186⟩
    obtain ⟨v187,hx188,hF189⟩:=qg hF184
    simp only [zf,qb,qi4,f155,qe,zd,B0,reduceIte,reduceEqDiff]
    refine yp rfl (wg hW pb0 v182.2 3 v187 hx188 hS186) ?_
    rintro _ h190 ⟨rfl,hS191⟩
    simp only [run_build,evp,B0,reduceIte,reduceEqDiff]
    refine qh (v := .agg [.int .i64 v177.1,.int .i64 (IntKind.wrap .i64 (v182.1 - 1)),.int .i64 v187.1]) rfl ?_
    simp only [f160,zj,B0,reduceIte,reduceEqDiff]
    refine qx (us:=[.int .i64 v177.1,.int .i64 (IntKind.wrap .i64 (v182.1 - 1)),.int .i64 v187.1]) rfl (cs':=[.int .i64 v177.1,
      .int .i64 (IntKind.wrap .i64 (v182.1 - 1)),.int .i64 v187.1]) (Sep.m2 hS191) hW rfl rfl (Nat.le_of_ble_eq_true rfl) rfl (fun h192 hS193=>?_)
    simp only [qa,qo,B0,reduceIte,reduceEqDiff]
    have e194:=qk hF189
    subst e194
    exact hN173 _ _ ⟨f155,f156,f157,f158,f159,f160,(Sep.m2 (Sep.m2 hS193))⟩
   ·rw [iteF hc176] at hX169
    simp only [zg,qo,B0,reduceIte,reduceEqDiff]
    have e195:=qk hX169
    subst e195
    exact hN173 _ _ ⟨f155,f156,f157,f158,f159,f160,(Sep.m2 (Sep.m2 (Sep.m2 hS165)))⟩
   rintro fr196 h197 ⟨f199,f200,f201,f202,f203,f204,hS198⟩
   obtain ⟨s166,s167⟩:=sv171
   dsimp only at *
   unfold qbn at hk170
   simp only [qyk,qc,f201,qe,f204,qp,B0,reduceIte,reduceEqDiff]
   refine qh (v := .agg [.int .i64 s167.Kind,.int .i64 s167.K,.int .i64 s167.N]) ((z0 (Sep.bk _ _ _ (Sep.m2 hS198))).trans rfl) ?_
   simp only [kx,evp,B0,reduceIte,reduceEqDiff]
   refine k8 (n:=3) (f:=SnapStep.cells) [s167] hS198 rfl rfl (fun v205 c206 h207 hv208 hS209=>?_)
   simp only [xh,B0,reduceIte,reduceEqDiff]
   obtain ⟨l211,hx212,hF213⟩:=qg hk170
   refine xw (f:=SnapStep.cells) hv47 (Sep.m2 hS209) hW (fun _=>rfl) (fun _=>rfl) (SlF.first hv208 hS209 (fun _=>rfl)) hx212
     (fun v214 c215 h216 hv217 hS218=>?_)
   simp only [qe,qa,uo,qc,f202,zf,qb,qi4,qo,B0,reduceIte,reduceEqDiff]
   have e220:=qk hF213
   exact hN59 _ _ _ e220.symm ⟨v214,c215,f199,f200,rfl,rfl,f203,hv217,(Sep.m1 (Sep.dc (Sep.m2 (Sep.dc (Sep.m1 hS218)))))⟩
  rw [iteF hc73] at hF56
  simp only [qd2,qcy,qeb,B0,reduceIte,reduceEqDiff]
  have e224:=qk hF56
  exact hK60 _ _ _ e224.symm ⟨v45,c46,f67,f68,f69,f70,f71,hv47,(Sep.m1 (Sep.m1 hS66))⟩
 rintro ⟨s226,s231,s232⟩ fr233 h234 rfl ⟨v228,c229,f236,f237,f238,f239,f240,hv230,hS235⟩
 dsimp only [jnO] at hk55
 dsimp only at *
 unfold qbm at hk55
 simp only [qd,qc,f238,qe,qa,qz,B0,reduceIte,reduceEqDiff]
 have he:=qk hk55
 subst he
 simp only [zl,B0,reduceIte,reduceEqDiff]
 exact ⟨v228,c229,by first | trivial | rfl,hv230,(Sep.m1 hS235)⟩
theorem qhx {W:Nat→Bool}{h:Heap} (hW:∀ b,
  (geL h.length) b→W b=true) (k:Nat) (procs_0:Int) (r:List Chan) (hF:qcv k procs_0=some r) : Ret E W 65 [.int .i64 procs_0] h (fun v h'=>∃ rv0 rc0,
  v=rv0∧SlN Chan.R 3 74 rv0 r rc0∧Sep h' (geL h.length) (rc0++([]))):=by
 refine Ret.of (fn:=x65) rfl (Run.of ?_)
 unfold qcv at hF
 have zf0:zh [.int .i64 procs_0] 0 = .int .i64 procs_0:=rfl
 generalize zh [.int .i64 procs_0]=fr0 at zf0 ⊢
 have hS:Sep h (geL h.length) []:=Sep.nil h
 simp only [x65,qd,qc,qe,qa,qvq,quk,B0,reduceIte,reduceEqDiff]
 obtain ⟨oc15,hX17,hk18⟩:=jp hF
 simp only [qu5]
 refine qe9 (σ:=(List Chan) × Int) (fun s106=>qew k procs_0 s106.1 s106.2) (fun s fr' h'=>∃ v9 c10,
   fr' 0 = .int .i64 procs_0∧fr' 3=v9∧fr' 4 = .int .i64 s.2∧SlN Chan.R 3 74 v9 s.1 c10∧Sep h' (geL h.length) (c10++([]))) hX17 ⟨.nil,[],zf0,rfl,rfl,SlN.nil,
   (hS:Sep _ (geL h.length) ([]))⟩ (fun _ _ _ h=>h) ?_ ?_
 ·rintro ⟨s7,s12⟩ fr27 h28 ⟨v9,c10,f30,f31,f32,hv11,hS29⟩ oc16 hF19 hr20 Q21 hN22 hK23 hR24 hE25
  dsimp only at *
  unfold qew at hF19
  simp only [qsw,qd,qc,f32,qe,f30,zf,qb,qgr,qa,zc,B0,reduceIte,reduceEqDiff]
  refine zb (t:=(decide (s12<procs_0))) (fun hc34=>?_) (fun hc34=>?_)
  ·rw [iteT hc34] at hF19
   simp only [zg,q4u,qd,xn,q0u,qc,qe,qa,B0,reduceIte,reduceEqDiff]
   obtain ⟨oc49,hX51,hk52⟩:=jp hF19
   simp only [q1j]
   refine qe9 (σ:=(List Chan) × Int) (fun s89=>qes procs_0 s12 s89.1 s89.2) (fun s fr' h'=>∃ v43 c44,
     fr' 0 = .int .i64 procs_0∧fr' 3=v43∧fr' 4 = .int .i64 s12∧fr' 5 = .int .i64 s.2∧SlN Chan.R 3 74 v43 s.1 c44∧Sep h' (geL h.length) (c44++([]))) hX51 ⟨v9,
     c10,f30,f31,f32,rfl,hv11,hS29⟩ (fun _ _ _ h=>h) ?_ ?_
   ·rintro ⟨s41,s46⟩ fr61 h62 ⟨v43,c44,f64,f65,f66,f67,hv45,hS63⟩ oc50 hF53 hr54 Q55 hN56 hK57 hR58 hE59
    dsimp only at *
    unfold qes at hF53
    simp only [q2q,qd,qc,f67,qe,f64,zf,qb,qgr,qa,zc,B0,reduceIte,reduceEqDiff]
    refine zb (t:=(decide (s46<procs_0))) (fun hc69=>?_) (fun hc69=>?_)
    ·rw [iteT hc69] at hF53
     simp only [zg,qzz,qd,xn,q2d,qc,f66,qe,f67,zf,qb,ws,qa,qzq,zc,B0,reduceIte,reduceEqDiff]
     refine zb (t:=(decide (s12≠s46))) (fun hc70=>?_) (fun hc70=>?_)
     ·rw [iteT hc70] at hF53
      simp only [q2h,qc,f65,qe,f66,f67,run_build,evp,B0,reduceIte,reduceEqDiff]
      refine qh (v := .agg [.int .i64 s12,.int .i64 s46,.nil]) rfl ?_
      simp only [kx,evp,B0,reduceIte,reduceEqDiff]
      refine qal (R:=Chan.R) (n:=3) (cs:=[.int .i64 s12,.int .i64 s46,
        .nil]) (os:=[]) (Sep.bi1 (c1:=[]) (S:=(c44++([]))) (hS63:Sep _ (geL h.length) (c44++([])))) rfl (Chan.RI (x:=(Chan.mk s12 s46 [])) SlF.nil) rfl
        (fun v71 c72 h73 hv74 hS75=>?_)
      simp only [xh,B0,reduceIte,reduceEqDiff]
      obtain ⟨l77,hx78,hF79⟩:=qg hF53
      refine qcz (R:=Chan.R) (c:=c44) hv45 hv74 (Sep.m1 hS75) hW Chan.RO.len Chan.RO.one hx78 (fun v80 c81 h82 hv83 hS84=>?_)
      simp only [qe,qa,uo,qc,f67,zf,qb,yz,qo,B0,reduceIte,reduceEqDiff]
      have e86:=qk hF79
      exact hN56 _ _ _ e86.symm ⟨v80,c81,f64,rfl,f66,rfl,hv83,hS84⟩
     rw [iteF hc70] at hF53
     simp only [zg,uo,qc,f67,qe,zf,qb,yz,qa,qo,B0,reduceIte,reduceEqDiff]
     have e87:=qk hF53
     exact hN56 _ _ _ e87.symm ⟨v43,c44,f64,f65,f66,rfl,hv45,hS63⟩
    rw [iteF hc69] at hF53
    simp only [qd2,qcy,qeb,B0,reduceIte,reduceEqDiff]
    have e88:=qk hF53
    exact hK57 _ _ _ e88.symm ⟨v43,c44,f64,f65,f66,f67,hv45,hS63⟩
   rintro ⟨s90,s95⟩ fr96 h97 rfl ⟨v92,c93,f99,f100,f101,f102,hv94,hS98⟩
   dsimp only [jnO] at hk52
   dsimp only at *
   unfold qg9 at hk52
   simp only [uo,qc,f101,qe,zf,qb,yz,qa,qo,B0,reduceIte,reduceEqDiff]
   have e103:=qk hk52
   exact hN22 _ _ _ e103.symm ⟨v92,c93,f99,f100,rfl,hv94,hS98⟩
  rw [iteF hc34] at hF19
  simp only [qd2,qcy,qeb,B0,reduceIte,reduceEqDiff]
  have e105:=qk hF19
  exact hK23 _ _ _ e105.symm ⟨v9,c10,f30,f31,f32,hv11,hS29⟩
 rintro ⟨s107,s112⟩ fr113 h114 rfl ⟨v109,c110,f116,f117,f118,hv111,hS115⟩
 dsimp only [jnO] at hk18
 dsimp only at *
 unfold qhf at hk18
 simp only [qd,qc,f117,qe,qa,qz,B0,reduceIte,reduceEqDiff]
 have he:=qk hk18
 subst he
 simp only [zl,B0,reduceIte,reduceEqDiff]
 exact ⟨v109,c110,by first | trivial | rfl,hv111,hS115⟩
theorem uq {W:Nat→Bool}{h:Heap} (hW:∀ b,
  (geL h.length) b→W b=true) (n_0:Int) (lo_1:Int) (hi_2:Int) (r:Bool) (hF:some (ja n_0 lo_1 hi_2)=some r) : Ret E W 66 [.int .i64 n_0,.int .i64 lo_1,
  .int .i64 hi_2] h (fun v h'=>cut h.length h' E.sz false 9 v=some (.bool r)):=by
 refine Ret.of (fn:=x66) rfl (Run.of ?_)
 unfold ja at hF
 have zf0:zh [.int .i64 n_0,.int .i64 lo_1,.int .i64 hi_2] 0 = .int .i64 n_0:=rfl
 have zf1:zh [.int .i64 n_0,.int .i64 lo_1,.int .i64 hi_2] 1 = .int .i64 lo_1:=rfl
 have zf2:zh [.int .i64 n_0,.int .i64 lo_1,.int .i64 hi_2] 2 = .int .i64 hi_2:=rfl
 generalize zh [.int .i64 n_0,.int .i64 lo_1,.int .i64 hi_2]=fr0 at zf0 zf1 zf2 ⊢
 have hS:Sep h (geL h.length) []:=Sep.nil h
 simp only [x66,qd,qc,qe,qa,qyr,zf0,zf1,zf,qb,qja,B0,reduceIte,reduceEqDiff]
 refine j0 4 (fun fr' h'=>Sep h' (geL h.length) ([])∧fr' 14 = .bool ((decide (lo_1≤n_0))&&(decide (n_0≤hi_2)))) (fun Q1 hN2=>?_) ?_
 ·simp only [List.take_succ_cons,List.take_zero]
  simp only [ql (g:=10),B0,reduceIte,reduceEqDiff]
  refine zn (t:=(decide (lo_1≤n_0))) (fun hg3=>?_) (fun hg3=>?_)
  ·simp only [hg3,ql (g:=10),z4,zf0,qe,zf2,zf,qb,qpg,za,zp,qa,qo,B0,reduceIte,reduceEqDiff]
   exact hN2 _ _ ⟨hS,by rw [qb5 hg3]; simp only [B0,reduceIte,reduceEqDiff]⟩
  ·simp only [hg3,ql (g:=10),kw,za,qb,zq,qa,qo,B0,reduceIte,reduceEqDiff]
   exact hN2 _ _ ⟨hS,by rw [qb4 hg3]; simp only [B0,reduceIte,reduceEqDiff]⟩
 rintro fr4 h6 ⟨hS7,f5⟩
 simp only [List.drop_succ_cons,List.drop_zero]
 simp only [f5,qe,qa,qz,B0,reduceIte,reduceEqDiff]
 have he:=qk hF
 subst he
 simp only [zl,B0,reduceIte,reduceEqDiff]
 exact rfl
theorem qe4 {W:Nat→Bool}{h:Heap} (hW:∀ b,
  (geL h.length) b→W b=true) (k:Nat) (procs_0:Int) (amount_1:Int) (r:Snap × Bool) (hF:ku k procs_0 amount_1=some r) : Ret E W 35 [.int .i64 procs_0,
  .int .i64 amount_1] h (fun v h'=>∃ rv0_0 rc0_0 rv0_1 rc0_1 rv0_2 rc0_2,v = .tup [.agg [rv0_0,rv0_1,rv0_2,.int .i64 r.1.Sent,.int .i64 r.1.Total],
  .bool r.2]∧SlF cI 1 3 rv0_0 r.1.Amounts rc0_0∧SlN Chan.R 3 74 rv0_1 r.1.Chans rc0_1∧SlN Picture.R 4 76 rv0_2 r.1.Pictures rc0_2∧Sep h' (geL h.length) (rc0_0 ++
  (rc0_1++(rc0_2++([]))))):=by
 refine Ret.of (fn:=x35) rfl (Run.of ?_)
 unfold ku at hF
 have zf0:zh [.int .i64 procs_0,.int .i64 amount_1] 0 = .int .i64 procs_0:=rfl
 have zf1:zh [.int .i64 procs_0,.int .i64 amount_1] 1 = .int .i64 amount_1:=rfl
 generalize zh [.int .i64 procs_0,.int .i64 amount_1]=fr0 at zf0 zf1 ⊢
 have hS:Sep h (geL h.length) []:=Sep.nil h
 simp only [x35,qd,qc,jb,B0,reduceIte,reduceEqDiff]
 refine zv hS (fun b1 h2 hS3=>?_)
 simp only [qe,qa,qrq,qd,qc,zf0,zd,B0,reduceIte,reduceEqDiff]
 refine j5 rfl (qj qq (qj qq (qj qq q9))) (uq (fun b hb=>decide_eq_true hb) procs_0 2 4 _ rfl) ?_
 simp only [jz,qb,kf,qe,B0,reduceIte,reduceEqDiff]
 refine j0 4 (fun fr' h'=>Sep h' (geL h.length) ([Blk1 b1 [.nil,.nil,.nil,.int .i64 0,
   .int .i64 0] 30]++([]))∧fr' 15 = .bool ((!(ja procs_0 2 4)) ||
   (!(ja amount_1 0 250)))∧fr' 0 = .int .i64 procs_0∧fr' 1 = .int .i64 amount_1∧fr' 4 = .ptr b1 0) (fun Q5 hN6=>?_) ?_
 ·simp only [List.take_succ_cons,List.take_zero]
  simp only [ql (g:=11),B0,reduceIte,reduceEqDiff]
  refine zn (t:=(!(ja procs_0 2 4))) (fun hg7=>?_) (fun hg7=>?_)
  ·simp only [hg7,ql (g:=11),jm,za,qb,zp,qa,qo,B0,reduceIte,reduceEqDiff]
   exact hN6 _ _ ⟨hS3,by rw [orT hg7]; simp only [B0,reduceIte,reduceEqDiff],zf0,zf1,rfl⟩
  ·simp only [hg7,ql (g:=11),qv,zf1,qe,zd,B0,reduceIte,reduceEqDiff]
   refine j5 rfl (qj qq (qj qq (qj qq q9))) (uq (fun b hb=>decide_eq_true hb) amount_1 0 250 _ rfl) ?_
   simp only [hg7,ql (g:=11),qv,jz,qb,kf,za,zq,qa,qo,B0,reduceIte,reduceEqDiff]
   exact hN6 _ _ ⟨hS3,by rw [orF hg7]; simp only [B0,reduceIte,reduceEqDiff],zf0,zf1,rfl⟩
 rintro fr8 h13 ⟨hS14,f9,f10,f11,f12⟩
 simp only [List.drop_succ_cons,List.drop_zero]
 simp only [qa,q2e,f9,zc,B0,reduceIte,reduceEqDiff]
 refine zb (t:=((!(ja procs_0 2 4))||(!(ja amount_1 0 250)))) (fun hc15=>?_) (fun hc15=>?_)
 ·rw [iteT hc15] at hF
  simp only [qd,qc,run_build,evp,B0,reduceIte,reduceEqDiff]
  refine qh (v := .agg [.nil,.nil,.nil,.int .i64 0,.int .i64 0]) rfl ?_
  simp only [f12,zj,B0,reduceIte,reduceEqDiff]
  refine qx (us:=[.nil,.nil,.nil,.int .i64 0,.int .i64 0]) rfl (cs':=[.nil,.nil,.nil,.int .i64 0,
    .int .i64 0]) hS14 hW rfl rfl (Nat.le_of_ble_eq_true rfl) rfl (fun h16 hS17=>?_)
  simp only [qe,qa,qz,B0,reduceIte,reduceEqDiff]
  have he:=qk hF
  subst he
  refine jr (qj (jv (bb:=b1) (oo:=0) (v := .agg [.nil,.nil,.nil,.int .i64 0,
    .int .i64 0]) (f12) ((z0 (Sep.bk _ _ _ hS17)).trans rfl)) (qj (kz (v := .bool false) (rfl)) q9)) ?_
  exact ⟨.nil,[],.nil,[],.nil,[],by first | trivial | rfl,SlF.nil,SlN.nil,SlN.nil,((Sep.dc (hS17)) : Sep _ (geL h.length) ([]))⟩
 rw [iteF hc15] at hF
 obtain ⟨v18,hx19,hF20⟩:=qg hF
 simp only [zg,q4t,qd,qc,f10,qe,zd,B0,reduceIte,reduceEqDiff]
 refine ut rfl hS14 (qj qq q9) (qhx (fun b hb=>decide_eq_true hb) k procs_0 v18 hx19) ?_
 rintro v21 h25 ⟨_,c22,rfl,hv23,hS26⟩
 refine ⟨_,qtf (SlN.free1 hv23),hS26,(jc (SlN.pf hv23 Chan.RO) wt),fun h27 hS28=>?_⟩
 have hS29:Sep h27 (geL h.length) (c22++([Blk1 b1 [.nil,.nil,.nil,.int .i64 0,.int .i64 0] 30]++([]))):=by simpa only [List.append_assoc,List.nil_append] using hS28
 simp only [f10,qe,f11,zf,qb,qln,run_build,evp,B0,reduceIte,reduceEqDiff]
 refine qh (v := .agg [.nil,v21,.nil,.int .i64 0,.int .i64 (IntKind.wrap .i64 (procs_0*amount_1))]) (qdo (qat (us:=[v21]) (vs:=[.nil,v21,.nil,
   .int .i64 0,.int .i64 0]) (j6 (SlN.one hv23)) rfl (Nat.le_of_ble_eq_true rfl) (qi (SlN.one hv23) zk) rfl (qat (us:=[.int .i64 (IntKind.wrap .i64
   (procs_0*amount_1))]) (vs:=[.nil,v21,.nil,.int .i64 0,.int .i64 (IntKind.wrap .i64 (procs_0*amount_1))]) rfl rfl (Nat.le_of_ble_eq_true rfl) rfl rfl qeg))) ?_
 simp only [jb,B0,reduceIte,reduceEqDiff]
 refine zv hS29 (fun b30 h31 hS32=>?_)
 simp only [zj,B0,reduceIte,reduceEqDiff]
 refine qx (us:=[.nil,v21,.nil,.int .i64 0,.int .i64 (IntKind.wrap .i64 (procs_0*amount_1))]) rfl (cs':=[.nil,v21,.nil,.int .i64 0,
   .int .i64 (IntKind.wrap .i64 (procs_0*amount_1))]) hS32 hW rfl (qi rfl (qi (SlN.one hv23) (qi rfl (qi rfl (qi rfl zk)))))
   (Nat.le_of_ble_eq_true rfl) rfl (fun h34 hS35=>?_)
 simp only [qa,q3j,qd,qc,qe,B0,reduceIte,reduceEqDiff]
 obtain ⟨oc58,hX60,hk61⟩:=jp hF20
 simp only [q3d]
 refine qe9 (σ:=Int × Snap) (fun s134=>qer procs_0 amount_1 v18 s134.1 s134.2) (fun s fr' h'=>∃ v49 c50 v53 c54,
   fr' 0 = .int .i64 procs_0∧fr' 1 = .int .i64 amount_1∧fr' 4 = .ptr b1 0∧fr' 6 = .ptr b30 0∧fr' 7 = .int .i64 s.1∧SlF cI 1 3 v49 s.2.Amounts c50∧SlN Picture.R 4 76 v53 s.2.Pictures c54∧Sep h'
   (geL h.length) ([Blk1 b1 [.nil,.nil,.nil,.int .i64 0,.int .i64 0] 30]++([Blk1 b30 [v49,v21,v53,.int .i64 s.2.Sent,
   .int .i64 s.2.Total] 30]++(c50++(c22++(c54++([]))))))) hX60 ⟨.nil,[],.nil,[],f10,f11,f12,rfl,rfl,SlF.nil,SlN.nil,
   ((Sep.m2 (Sep.m1 (Sep.m1 hS35))) : Sep _ (geL h.length) ([Blk1 b1 [.nil,.nil,.nil,.int .i64 0,.int .i64 0] 30]++([Blk1 b30 [.nil,v21,.nil,.int .i64 0,
   .int .i64 (IntKind.wrap .i64 (procs_0*amount_1))] 30]++(c22++([])))))⟩ (fun _ _ _ h=>h) ?_ ?_
 ·rintro ⟨s46,s47⟩ fr70 h71 ⟨v49,c50,v53,c54,f73,f74,f75,f76,f77,hv51,hv55,hS72⟩ oc59 hF62 hr63 Q64 hN65 hK66 hR67 hE68
  dsimp only at *
  unfold qer at hF62
  simp only [q32,qd,qc,f77,qe,f73,zf,qb,qgr,qa,zc,B0,reduceIte,reduceEqDiff]
  refine zb (t:=(decide (s46<procs_0))) (fun hc79=>?_) (fun hc79=>?_)
  ·rw [iteT hc79] at hF62
   simp only [zg,q15,qd,xn,qyy,qc,f76,qt,qb,Nat.reduceAdd,Nat.zero_add,Nat.add_zero,qu,qp,B0,reduceIte,
     reduceEqDiff]
   refine qh (v:=v49) ((jj (Sep.bk _ _ _ (Sep.m1 hS72))).trans rfl) ?_
   simp only [f74,qe,kx,evp,B0,reduceIte,reduceEqDiff]
   refine k8 (n:=1) (f:=cI) [amount_1] hS72 rfl rfl (fun v80 c81 h82 hv83 hS84=>?_)
   simp only [xh,B0,reduceIte,reduceEqDiff]
   obtain ⟨l86,hx87,hF88⟩:=qg hF62
   refine xw (f:=cI) hv51 (Sep.m3 hS84) hW (fun _=>rfl) (fun _=>rfl) (SlF.first hv83 hS84 (fun _=>rfl)) hx87 (fun v89 c90 h91 hv92 hS93=>?_)
   simp only [f76,qt,qb,Nat.reduceAdd,Nat.zero_add,Nat.add_zero,qu,zj,B0,reduceIte,reduceEqDiff]
   refine qx (us:=[v89]) (j6 (SlF.one hv92)) (cs':=[v89,v21,v53,.int .i64 s47.Sent,
     .int .i64 s47.Total]) (Sep.m3 hS93) hW rfl (qi (SlF.one hv92) zk) (Nat.le_of_ble_eq_true rfl) rfl (fun h95 hS96=>?_)
   simp only [qa,qyt,jd,f76,zi,qf,Nat.reduceAdd,Nat.zero_add,Nat.add_zero,qu,ze,B0,reduceIte,reduceEqDiff]
   refine qm (v:=v53) ((jj (Sep.bk _ _ _ hS96)).trans rfl) ?_
   obtain ⟨l97,hx98,hF99⟩:=qg hF88
   simp only [f73,zr,qf,qkn,B0,reduceIte,reduceEqDiff]
   refine qgb (f:=cI) (z:=(0:Int)) hS96 hx98 rfl (fun v100 c101 h102 hv103 hS104=>?_)
   obtain ⟨l106,hx107,hF108⟩:=qg hF99
   simp only [f73,zr,qf,qkn,B0,reduceIte,reduceEqDiff]
   refine qgb (f:=cB) (z:=false) hS104 hx107 rfl (fun v109 c110 h111 hv112 hS113=>?_)
   simp only [qic,evp,B0,reduceIte,reduceEqDiff]
   refine qm (v := .agg [.bool false,.int .i64 0,v100,v109]) (qdo (qat (us:=[v100]) (vs:=[.bool false,.int .i64 0,v100,
     .nil]) (j6 (SlF.one hv103)) rfl (Nat.le_of_ble_eq_true rfl) (qi (SlF.one hv103) zk) rfl (qat (us:=[v109]) (vs:=[.bool false,.int .i64 0,v100,
     v109]) (j6 (SlF.one hv112)) rfl (Nat.le_of_ble_eq_true rfl) (qi (SlF.one hv112) zk) rfl qeg))) ?_
   simp only [u9,evp,B0,reduceIte,reduceEqDiff]
   refine qiq (R:=Picture.R) (n:=4) (cs:=[.bool false,.int .i64 0,v100,
     v109]) (os:=c101++(c110)) (Sep.bi2 (c1:=c101) (c2:=c110) (Sep.m1 hS113)) (qat (us:=[.bool false,.int .i64 0,v100,v109]) (vs:=[.bool false,.int .i64 0,
     v100,v109]) rfl rfl (Nat.le_of_ble_eq_true rfl) (qi rfl (qi rfl (qi (SlF.one hv103) (qi (SlF.one hv112) zk)))) rfl qeg) (Picture.RI (x :=
     (Picture.mk false 0 l97 l106)) hv103 hv112) rfl (fun v115 c116 h117 hv118 hS119=>?_)
   simp only [qnq,B0,reduceIte,reduceEqDiff]
   obtain ⟨l121,hx122,hF123⟩:=qg hF108
   refine qk9 (R:=Picture.R) (c:=c54) hv55 hv118 (Sep.m6 hS119) hW Picture.RO.len Picture.RO.one hx122 (fun v124 c125 h126 hv127 hS128=>?_)
   simp only [f76,zi,qf,Nat.reduceAdd,Nat.zero_add,Nat.add_zero,qu,xj,B0,reduceIte,reduceEqDiff]
   refine qa6 (us:=[v124]) (j6 (SlN.one hv127)) (cs':=[v89,v21,v124,.int .i64 s47.Sent,
     .int .i64 s47.Total]) (Sep.m1 hS128) hW rfl (qi (SlN.one hv127) zk) (Nat.le_of_ble_eq_true rfl) rfl (fun h130 hS131=>?_)
   simp only [qs,uo,qc,f77,qe,zf,qb,yz,qa,qo,B0,reduceIte,reduceEqDiff]
   have e132:=qk hF123
   exact hN65 _ _ _ e132.symm ⟨v89,c90,v124,c125,f73,f74,f75,f76,rfl,hv92,hv127,(Sep.m4 (Sep.m3 (Sep.m3 (Sep.m4 (Sep.m1 (Sep.dc (Sep.m3 hS131)))))))⟩
  rw [iteF hc79] at hF62
  simp only [qd2,qcy,qeb,B0,reduceIte,reduceEqDiff]
  have e133:=qk hF62
  exact hK66 _ _ _ e133.symm ⟨v49,c50,v53,c54,f73,f74,f75,f76,f77,hv51,hv55,(Sep.m4 (Sep.m4 (Sep.m4 (Sep.m4 (Sep.m4 hS72)))))⟩
 rintro ⟨s135,s136⟩ fr145 h146 rfl ⟨v138,c139,v142,c143,f148,f149,f150,f151,f152,hv140,hv144,hS147⟩
 dsimp only [jnO] at hk61
 dsimp only at *
 unfold qhj at hk61
 simp only [qd,qc,f151,qp,B0,reduceIte,reduceEqDiff]
 refine qh (v := .agg [v138,v21,v142,.int .i64 s136.Sent,.int .i64 s136.Total]) ((z0 (Sep.bk _ _ _ (Sep.m1 hS147))).trans rfl) ?_
 simp only [f150,zj,B0,reduceIte,reduceEqDiff]
 refine qx (us:=[v138,v21,v142,.int .i64 s136.Sent,.int .i64 s136.Total]) rfl (cs':=[v138,v21,v142,.int .i64 s136.Sent,
   .int .i64 s136.Total]) hS147 hW rfl (qi (SlF.one hv140) (qi (SlN.one hv23) (qi (SlN.one hv144) (qi rfl (qi rfl zk))))) (Nat.le_of_ble_eq_true rfl) rfl
   (fun h153 hS154=>?_)
 simp only [qe,qa,qz,B0,reduceIte,reduceEqDiff]
 have he:=qk hk61
 subst he
 refine jr (qj (jv (bb:=b1) (oo:=0) (v := .agg [v138,v21,v142,.int .i64 s136.Sent,
   .int .i64 s136.Total]) (f150) ((z0 (Sep.bk _ _ _ hS154)).trans rfl)) (qj (kz (v := .bool true) (rfl)) q9)) ?_
 exact ⟨v138,c139,v21,c22,v142,c143,by first | trivial | rfl,hv140,hv23,hv144,(Sep.m2 (Sep.m2 (Sep.m2 (Sep.dc ((Sep.dc (hS154)))))))⟩
theorem qfy {W:Nat→Bool}{h:Heap}{lo:Nat→Prop}{S0:List Obj} (hW:∀ b,
  lo b→W b=true) (v_0:Snap) (pv0_0:XV) (pc0_0:List Obj) (ph0_0:SlF cI 1 3 pv0_0 v_0.Amounts pc0_0) (pv0_1:XV) (pc0_1:List Obj)
  (ph0_1:SlN Chan.R 3 74 pv0_1 v_0.Chans pc0_1) (pv0_2:XV) (pc0_2:List Obj) (ph0_2:SlN Picture.R 4 76 pv0_2 v_0.Pictures pc0_2) (v_1:Int) (r:Snap × Bool)
  (hF:yw v_0 v_1=some r) (hS:Sep h lo (pc0_0++(pc0_1++(pc0_2++(S0))))) : Ret E W 71 [.agg [pv0_0,pv0_1,pv0_2,.int .i64 v_0.Sent,.int .i64 v_0.Total],
  .int .i64 v_1] h (fun v h'=>∃ rc0_0 rc0_1 rc0_2,v = .tup [.agg [pv0_0,pv0_1,pv0_2,.int .i64 r.1.Sent,.int .i64 r.1.Total],
  .bool r.2]∧SlF cI 1 3 pv0_0 r.1.Amounts rc0_0∧SlN Chan.R 3 74 pv0_1 r.1.Chans rc0_1∧SlN Picture.R 4 76 pv0_2 r.1.Pictures rc0_2∧Sep h' lo (rc0_0++(rc0_1 ++
  (rc0_2++(S0))))):=by
 refine Ret.of (fn:=x71) rfl (Run.of ?_)
 unfold yw at hF
 have zf0:zh [.agg [pv0_0,pv0_1,pv0_2,.int .i64 v_0.Sent,.int .i64 v_0.Total],.int .i64 v_1] 0 = .agg [pv0_0,pv0_1,pv0_2,.int .i64 v_0.Sent,
   .int .i64 v_0.Total]:=rfl
 have zf1:zh [.agg [pv0_0,pv0_1,pv0_2,.int .i64 v_0.Sent,.int .i64 v_0.Total],.int .i64 v_1] 1 = .int .i64 v_1:=rfl
 generalize zh [.agg [pv0_0,pv0_1,pv0_2,.int .i64 v_0.Sent,.int .i64 v_0.Total],.int .i64 v_1]=fr0 at zf0 zf1 ⊢
 simp only [x71,qd,qc,kh,zf0,B0,reduceIte,reduceEqDiff]
 refine jt (cs:=[pv0_0,pv0_1,pv0_2,.int .i64 v_0.Sent,
   .int .i64 v_0.Total]) hS rfl rfl (qi (SlF.one ph0_0) (qi (SlN.one ph0_1) (qi (SlN.one ph0_2) (qi rfl (qi rfl zk))))) (fun b1 h2 hS3=>?_)
 simp only [jb,B0,reduceIte,reduceEqDiff]
 refine zv hS3 (fun b5 h6 hS7=>?_)
 simp only [qe,qa,B0,reduceIte,reduceEqDiff]
 refine zw (Sep.m1 hS7) hW (by simp only [B0,reduceIte,reduceEqDiff]) (fun h9 hS10=>?_)
 simp only [zo,qvz,qd,qc,qt,qb,Nat.reduceAdd,Nat.zero_add,Nat.add_zero,qr,qp,B0,reduceIte,reduceEqDiff]
 refine qh (v:=pv0_1) rfl ?_
 simp only [z6,qb,SlN.len ph0_1,qe,qa,B0,reduceIte,reduceEqDiff]
 obtain ⟨oc19,hX21,hk22⟩:=jp hF
 simp only [q2i]
 refine qce (σ:=(List Chan)) (fun i17 s93=>qbr v_0 v_1 i17 s93) (fun s fr' h'=>∃ c15,fr' 1 = .int .i64 v_1∧fr' 2 = .ref [pv0_0,pv0_1,pv0_2,
   .int .i64 v_0.Sent,.int .i64 v_0.Total] 0∧fr' 4 = .ptr b5 0∧fr' 11=pv0_1∧SlN Chan.R 3 74 pv0_1 s c15∧Sep h' lo (pc0_0++(c15++(pc0_2++([Blk1 b5 [.nil,.nil,
   .nil,.int .i64 0,.int .i64 0] 30]++(S0)))))) hX21 ⟨pc0_1,zf1,rfl,rfl,rfl,ph0_1,(Sep.m3 (Sep.m3 (Sep.m3 hS10)))⟩ (by simp only [B0,reduceIte,
   reduceEqDiff]) (by simp only [B0,reduceIte,reduceEqDiff]) (fun _ _ _ h=>h) rfl rfl (fun _ _ _ _ h=>h) (fun _ _ _ _ h=>h) (fun _ _ _ _ h=>h) (by decide) ?_ ?_
 ·rintro i17 s14 fr31 h32 hx38 ⟨c15,f34,f35,f36,f37,hv16,hS33⟩ f39 f40 oc20 hF23 hr24 Q25 hN26 hB30 hK27 hR28 hE29
  unfold qbr at hF23
  obtain ⟨x41,hx42,hF43⟩:=qg hF23
  simp only [qyg,qd,qc,f37,f39,jg,B0,reduceIte,reduceEqDiff]
  obtain ⟨b44,hb45⟩:=SlN.isrow hv16 (jq hx42)
  refine qh (SlN.ia hv16 hb45 hx42) ?_
  obtain ⟨c46,cs47,os48,hv49,hR50,hS51⟩:=SlG.opn (SlN.toG hv16 hb45 Chan.RO.len) hx42 z7 Chan.RO.len (Sep.m1 hS33)
  obtain ⟨v53,c54,hv55,rfl,rfl⟩:=hR50
  have hS52:=Sep.no1 hS51
  simp only [qp,B0,reduceIte,reduceEqDiff]
  refine qh (v := .agg [.int .i64 x41.From,.int .i64 x41.To,v53]) ((SlG.lds (o:=0) hv49 rfl hx42 hS52 (Nat.le_of_ble_eq_true rfl)).trans rfl) ?_
  simp only [jb,B0,reduceIte,reduceEqDiff]
  refine zv hS52 (fun b57 h58 hS59=>?_)
  simp only [zj,B0,reduceIte,reduceEqDiff]
  refine qx (us:=[.int .i64 x41.From,.int .i64 x41.To,v53]) rfl (cs':=[.int .i64 x41.From,.int .i64 x41.To,
    v53]) hS59 hW rfl (qi rfl (qi rfl (qi (SlF.one hv55) zk))) (Nat.le_of_ble_eq_true rfl) rfl (fun h61 hS62=>?_)
  simp only [qa,B0,reduceIte,reduceEqDiff]
  refine zw hS62 hW (by simp only [B0,reduceIte,reduceEqDiff]) (fun h63 hS64=>?_)
  simp only [zo,q4f,qd,qc,qt,qb,Nat.reduceAdd,Nat.zero_add,Nat.add_zero,qr,qp,B0,reduceIte,reduceEqDiff]
  refine qh (v := .int .i64 x41.From) rfl ?_
  simp only [f34,qe,zf,qb,wi,B0,reduceIte,reduceEqDiff]
  refine j0 5 (fun fr' h'=>Sep h' lo (pc0_0++(c46++(pc0_2++([Blk1 b5 [.nil,.nil,.nil,.int .i64 0,
    .int .i64 0] 30]++(c54++(S0))))))∧fr' 26 = .bool ((decide (x41.From=v_1))&&(decide
    ((List.length x41.Way:Int)=8)))∧fr' 1 = .int .i64 v_1∧fr' 2 = .ref [pv0_0,pv0_1,pv0_2,.int .i64 v_0.Sent,
    .int .i64 v_0.Total] 0∧fr' 4 = .ptr b5 0∧fr' 11=pv0_1∧fr' 12 = .int .i64 (List.length v_0.Chans:Int)∧fr' 13 = .int .i64 (i17:Int)) (fun Q65 hN66=>?_) ?_
  ·simp only [List.take_succ_cons,List.take_zero]
   simp only [ql (g:=21),B0,reduceIte,reduceEqDiff]
   refine zn (t:=(decide (x41.From=v_1))) (fun hg67=>?_) (fun hg67=>?_)
   ·simp only [hg67,ql (g:=21),z4,qt,qb,Nat.reduceAdd,Nat.zero_add,Nat.add_zero,qr,qp,B0,reduceIte,reduceEqDiff]
    refine qh (v:=v53) rfl ?_
    simp only [hg67,ql (g:=21),z4,z6,qb,SlF.plen hv55,zf,wi,za,zp,qa,qo,B0,reduceIte,reduceEqDiff]
    exact hN66 _ _ ⟨(Sep.m4 (Sep.m3 (Sep.m4 (Sep.m4 (Sep.m1 hS64))))),by rw [qb5 hg67]; simp only [B0,reduceIte,reduceEqDiff],f34,f35,f36,f37,f40,f39⟩
   ·simp only [hg67,ql (g:=21),kw,za,qb,zq,qa,qo,B0,reduceIte,reduceEqDiff]
    exact hN66 _ _ ⟨(Sep.m4 (Sep.m3 (Sep.m4 (Sep.m4 (Sep.m1 hS64))))),by rw [qb4 hg67]; simp only [B0,reduceIte,reduceEqDiff],f34,f35,f36,f37,f40,f39⟩
  rintro fr68 h76 ⟨hS77,f69,f70,f71,f72,f73,f74,f75⟩
  simp only [List.drop_succ_cons,List.drop_zero]
  simp only [qa,q17,f69,zc,B0,reduceIte,reduceEqDiff]
  refine zb (t:=((decide (x41.From=v_1))&&(decide ((List.length x41.Way:Int)=8)))) (fun hc78=>?_) (fun hc78=>?_)
  ·rw [iteT hc78] at hF43
   simp only [qd,qc,f71,qp,B0,reduceIte,reduceEqDiff]
   refine qh (v := .agg [pv0_0,pv0_1,pv0_2,.int .i64 v_0.Sent,.int .i64 v_0.Total]) rfl ?_
   simp only [f72,zj,B0,reduceIte,reduceEqDiff]
   refine qx (us:=[pv0_0,pv0_1,pv0_2,.int .i64 v_0.Sent,.int .i64 v_0.Total]) rfl (cs':=[pv0_0,pv0_1,pv0_2,.int .i64 v_0.Sent,
     .int .i64 v_0.Total]) (Sep.m3 hS77) hW rfl (qi (SlF.one ph0_0) (qi (SlG.one hv49) (qi (SlN.one ph0_2) (qi rfl (qi rfl zk)))))
     (Nat.le_of_ble_eq_true rfl) rfl (fun h79 hS80=>?_)
   simp only [qe,qa,qz,B0,reduceIte,reduceEqDiff]
   have e81:=qk hF43
   subst e81
   have ho82:=hr24 _ rfl
   have hk83:=hk22
   rw [ho82] at hk83
   dsimp only [jnO] at hk83
   apply hR28
   obtain ⟨c84,hv85,hS86⟩:=SlG.cls0 (c:=c46) (os:=c54) hv49 rfl hx42 z7 (Chan.RI (x:=x41) hv55) (Sep.m3 (Sep.m4 hS80))
   have hv87:=SlG.toN hv85
   have he:=qk hk83
   subst he
   refine jr (qj (jv (bb:=b5) (oo:=0) (v := .agg [pv0_0,pv0_1,pv0_2,.int .i64 v_0.Sent,
     .int .i64 v_0.Total]) (f72) ((z0 (Sep.bk _ _ _ (Sep.m1 hS86))).trans rfl)) (qj (kz (v := .bool false) (rfl)) q9)) ?_
   exact ⟨pc0_0,c84,pc0_2,by first | trivial | rfl,ph0_0,hv87,ph0_2,(Sep.m2 (Sep.m1 (Sep.m2 (Sep.dc (Sep.m1 hS86)))))⟩
  rw [iteF hc78] at hF43
  simp only [zg,qo,B0,reduceIte,reduceEqDiff]
  obtain ⟨c88,hv89,hS90⟩:=SlG.cls0 (c:=c46) (os:=c54) hv49 rfl hx42 z7 (Chan.RI (x:=x41) hv55) (Sep.m2 (Sep.m4 hS77))
  have hv91:=SlG.toN hv89
  have e92:=qk hF43
  exact hN26 _ _ _ e92.symm ⟨c88,f70,f71,f72,f73,hv91,(Sep.m3 (Sep.m2 (Sep.m3 (Sep.m3 hS90))))⟩ (f75) (f74)
 rintro s94 fr97 h98 rfl ⟨c95,f100,f101,f102,f103,hv96,hS99⟩
 dsimp only [jnO] at hk22
 unfold qfe at hk22
 simp only [qqh,qd,qc,f101,qt,qb,Nat.reduceAdd,Nat.zero_add,Nat.add_zero,qr,qp,B0,reduceIte,reduceEqDiff]
 refine qh (v:=pv0_1) rfl ?_
 simp only [z6,qb,SlN.len hv96,qe,qa,B0,reduceIte,reduceEqDiff]
 obtain ⟨oc112,hX114,hk115⟩:=jp hk22
 simp only [qrl]
 refine qce (σ:=(List Chan)) (fun i110 s189=>qc8 v_1 i110 s189) (fun s fr' h'=>∃ c108,fr' 1 = .int .i64 v_1∧fr' 2 = .ref [pv0_0,pv0_1,pv0_2,
   .int .i64 v_0.Sent,.int .i64 v_0.Total] 0∧fr' 4 = .ptr b5 0∧fr' 30=pv0_1∧SlN Chan.R 3 74 pv0_1 s c108∧Sep h' lo (pc0_0++(c108++(pc0_2++([Blk1 b5 [.nil,
   .nil,.nil,.int .i64 0,.int .i64 0] 30]++(S0)))))) hX114 ⟨c95,f100,f101,f102,rfl,hv96,(Sep.m3 (Sep.m3 (Sep.m3 (Sep.m3 hS99))))⟩ (by simp only [B0,reduceIte,
   reduceEqDiff]) (by simp only [B0,reduceIte,reduceEqDiff]) (fun _ _ _ h=>h) rfl rfl (fun _ _ _ _ h=>h) (fun _ _ _ _ h=>h) (fun _ _ _ _ h=>h) (by decide) ?_ ?_
 ·rintro i110 s107 fr124 h125 hx131 ⟨c108,f127,f128,f129,f130,hv109,hS126⟩ f132 f133 oc113 hF116 hr117 Q118 hN119 hB123 hK120 hR121 hE122
  unfold qc8 at hF116
  obtain ⟨x134,hx135,hF136⟩:=qg hF116
  simp only [q43,qd,qc,f132,qe,f130,jg,B0,reduceIte,reduceEqDiff]
  obtain ⟨b137,hb138⟩:=SlN.isrow hv109 (jq hx135)
  refine qh (SlN.ia hv109 hb138 hx135) ?_
  obtain ⟨c139,cs140,os141,hv142,hR143,hS144⟩:=SlG.opn (SlN.toG hv109 hb138 Chan.RO.len) hx135 z7 Chan.RO.len (Sep.m1 hS126)
  obtain ⟨v146,c147,hv148,rfl,rfl⟩:=hR143
  have hS145:=Sep.no1 hS144
  simp only [qp,B0,reduceIte,reduceEqDiff]
  refine qh (v := .agg [.int .i64 x134.From,.int .i64 x134.To,v146]) ((SlG.lds (o:=0) hv142 rfl hx135 hS145 (Nat.le_of_ble_eq_true rfl)).trans rfl) ?_
  simp only [jb,B0,reduceIte,reduceEqDiff]
  refine zv hS145 (fun b150 h151 hS152=>?_)
  simp only [qe,zj,B0,reduceIte,reduceEqDiff]
  refine qx (us:=[.int .i64 x134.From,.int .i64 x134.To,v146]) rfl (cs':=[.int .i64 x134.From,.int .i64 x134.To,
    v146]) hS152 hW rfl (qi rfl (qi rfl (qi (SlF.one hv148) zk))) (Nat.le_of_ble_eq_true rfl) rfl (fun h154 hS155=>?_)
  simp only [qa,B0,reduceIte,reduceEqDiff]
  refine zw hS155 hW (by simp only [B0,reduceIte,reduceEqDiff]) (fun h156 hS157=>?_)
  simp only [zo,qy3,qd,qc,qt,qb,Nat.reduceAdd,Nat.zero_add,Nat.add_zero,qr,qp,B0,reduceIte,reduceEqDiff]
  refine qh (v := .int .i64 x134.From) rfl ?_
  simp only [f127,qe,zf,qb,wi,qa,q04,zc,B0,reduceIte,reduceEqDiff]
  refine zb (t:=(decide (x134.From=v_1))) (fun hc158=>?_) (fun hc158=>?_)
  ·rw [iteT hc158] at hF136
   simp only [q28,jd,f128,qdw,qf,Nat.reduceAdd,Nat.zero_add,Nat.add_zero,qr,qbl,qbt,B0,reduceIte,reduceEqDiff]
   refine qm (v:=pv0_1) rfl ?_
   simp only [qhm,qf,f128,zi,Nat.reduceAdd,Nat.zero_add,Nat.add_zero,qr,ze,B0,reduceIte,reduceEqDiff]
   refine qm (v:=pv0_1) rfl ?_
   simp only [zr,qf,jo,B0,reduceIte,reduceEqDiff]
   refine qm (SlG.ia hv142 hx135) ?_
   simp only [zi,qf,Nat.reduceAdd,Nat.zero_add,Nat.add_zero,qu,ze,B0,reduceIte,reduceEqDiff]
   refine qm (v:=v146) ((SlG.ld (o:=2) hv142 rfl hx135 hS157 (Nat.le_of_ble_eq_true rfl)).trans rfl) ?_
   simp only [u9,evp,B0,reduceIte,reduceEqDiff]
   refine uh (n:=1) (f:=cI) [0] hS157 rfl rfl (fun v159 c160 h161 hv162 hS163=>?_)
   simp only [qez,B0,reduceIte,reduceEqDiff]
   obtain ⟨l165,hx166,hF167⟩:=qg hF136
   refine qij qgy ?_
   refine qa2 (f:=cI) hv148 (Sep.m2 hS163) hW (fun _=>rfl) (fun _=>rfl) (SlF.first hv162 hS163 (fun _=>rfl)) hx166 (fun v168 c169 h170 hv171 hS172=>?_)
   simp only [jo,B0,reduceIte,reduceEqDiff]
   refine qm (SlG.ia hv142 hx135) ?_
   simp only [zi,qf,Nat.reduceAdd,Nat.zero_add,Nat.add_zero,qu,xj,B0,reduceIte,reduceEqDiff]
   refine qcc (us:=[v168]) (o:=2) (cs':=[.int .i64 x134.From,.int .i64 x134.To,
     v168]) (j6 (SlF.one hv171)) hv142 rfl hx135 (Sep.m2 hS172) hW rfl (qi (SlF.one hv171) zk) (Nat.le_of_ble_eq_true rfl) rfl (fun c176 h174 hv177 hS175=>?_)
   simp only [qs,qo,B0,reduceIte,reduceEqDiff]
   obtain ⟨c178,hv179,hS180⟩:=SlG.cls (e':=(Chan.mk x134.From x134.To l165)) (c:=c176) (os:=c169) hv177 rfl hx135 z7 (Chan.RI (x :=
     (Chan.mk x134.From x134.To l165)) hv171) (Sep.m1 (Sep.m1 hS175))
   have hx181:=j7 (x':=(Chan.mk x134.From x134.To l165)) hx135
   have hv182:=SlG.toN hv179
   have e183:=qk hF167
   exact hN119 _ _ _ e183.symm ⟨c178,f127,f128,f129,f130,hv182,(Sep.m3 (Sep.m2 (Sep.m3 (Sep.m3 (Sep.dc (Sep.m1 hS180))))))⟩ (f132) (f133)
  rw [iteF hc158] at hF136
  simp only [zg,qo,B0,reduceIte,reduceEqDiff]
  obtain ⟨c184,hv185,hS186⟩:=SlG.cls0 (c:=c139) (os:=c147) hv142 rfl hx135 z7 (Chan.RI (x:=x134) hv148) (Sep.m1 (Sep.m1 hS157))
  have hv187:=SlG.toN hv185
  have e188:=qk hF136
  exact hN119 _ _ _ e188.symm ⟨c184,f127,f128,f129,f130,hv187,(Sep.m3 (Sep.m2 (Sep.m3 (Sep.m3 hS186))))⟩ (f132) (f133)
 rintro s190 fr193 h194 rfl ⟨c191,f196,f197,f198,f199,hv192,hS195⟩
 dsimp only [jnO] at hk115
 unfold qfa at hk115
 simp only [qqv,qd,qc,f197,qt,qb,Nat.reduceAdd,Nat.zero_add,Nat.add_zero,qr,qp,B0,reduceIte,reduceEqDiff]
 refine qh (v:=pv0_2) rfl ?_
 obtain ⟨x200,hx201,hF202⟩:=qg hk115
 simp only [f196,qe,jg,B0,reduceIte,reduceEqDiff]
 obtain ⟨b203,hb204⟩:=SlN.isrow ph0_2 (jq hx201)
 refine qh (SlN.ia ph0_2 hb204 hx201) ?_
 obtain ⟨c207,cs208,os209,hv210,hR211,hS212⟩:=SlG.opn (SlN.toG ph0_2 hb204 Picture.RO.len) hx201 z7 Picture.RO.len (Sep.m2 hS195)
 obtain ⟨v214,c215,v218,c219,hv216,hv220,rfl,rfl⟩:=hR211
 have hS213:=Sep.no2 hS212
 simp only [qt,qb,Nat.reduceAdd,Nat.zero_add,Nat.add_zero,qu,zj,B0,reduceIte,reduceEqDiff]
 refine qfn (us:=[.bool true]) (o:=0) (cs':=[.bool true,.int .i64 x200.Amount,v214,
   v218]) rfl hv210 rfl hx201 hS213 hW rfl rfl (Nat.le_of_ble_eq_true rfl) rfl (fun c222 h205 hv223 hS206=>?_)
 simp only [qa,qt4,qd,jd,f197,zi,qf,Nat.reduceAdd,Nat.zero_add,Nat.add_zero,qr,ze,B0,reduceIte,reduceEqDiff]
 refine qm (v:=pv0_2) rfl ?_
 simp only [f196,zr,qf,f197,zi,Nat.reduceAdd,Nat.zero_add,Nat.add_zero,qr,ze,B0,reduceIte,reduceEqDiff]
 refine qm (v:=pv0_0) rfl ?_
 obtain ⟨x224,hx225,hF226⟩:=qg hF202
 simp only [f196,zr,qf,jo,B0,reduceIte,reduceEqDiff]
 obtain ⟨b227,hb228⟩:=SlF.isrow ph0_0 (jq hx225)
 refine qm (SlF.ia ph0_0 hb228 hx225) ?_
 simp only [ze,B0,reduceIte,reduceEqDiff]
 refine qm (v := .int .i64 x224) ((SlF.ld (o:=0) ph0_0 (Sep.m3 hS206) hb228 hx225 (fun _=>rfl) (Nat.le_of_ble_eq_true rfl)).trans rfl) ?_
 simp only [jo,B0,reduceIte,reduceEqDiff]
 refine qm (SlG.ia hv223 hx201) ?_
 simp only [zi,qf,Nat.reduceAdd,Nat.zero_add,Nat.add_zero,qu,xj,B0,reduceIte,reduceEqDiff]
 refine qcc (us:=[.int .i64 x224]) (o:=1) (cs':=[.bool true,.int .i64 x224,v214,
   v218]) rfl hv223 rfl hx201 hS206 hW rfl rfl (Nat.le_of_ble_eq_true rfl) rfl (fun c231 h229 hv232 hS230=>?_)
 simp only [qs,quz,qd,qc,f197,qt,qb,Nat.reduceAdd,Nat.zero_add,Nat.add_zero,qr,qp,B0,reduceIte,reduceEqDiff]
 refine qh (v:=pv0_2) rfl ?_
 simp only [f196,qe,jg,B0,reduceIte,reduceEqDiff]
 refine qh (SlG.ia hv232 hx201) ?_
 simp only [qt,qb,Nat.reduceAdd,Nat.zero_add,Nat.add_zero,qu,qp,B0,reduceIte,reduceEqDiff]
 refine qh (v:=v218) ((SlG.ld (o:=3) hv232 rfl hx201 hS230 (Nat.le_of_ble_eq_true rfl)).trans rfl) ?_
 obtain ⟨x233,hx234,hF235⟩:=qg hF226
 simp only [f196,qe,jg,B0,reduceIte,reduceEqDiff]
 obtain ⟨b236,hb237⟩:=SlF.isrow hv220 (jq hx234)
 refine qh (SlF.ia hv220 hb237 hx234) ?_
 simp only [zj,B0,reduceIte,reduceEqDiff]
 refine qg4 (f:=cB) (x':=true) (o:=0) hv220 (Sep.m2 hS230) hW hb237 hx234 (fun _=>rfl) rfl rfl (Nat.le_of_ble_eq_true rfl) rfl (fun c240 h238 hv241 hS239=>?_)
 have hx242:=j7 (x':=true) hx234
 simp only [qa,qd,qc,f197,qp,B0,reduceIte,reduceEqDiff]
 refine qh (v := .agg [pv0_0,pv0_1,pv0_2,.int .i64 v_0.Sent,.int .i64 v_0.Total]) rfl ?_
 simp only [f198,zj,B0,reduceIte,reduceEqDiff]
 refine qx (us:=[pv0_0,pv0_1,pv0_2,.int .i64 v_0.Sent,.int .i64 v_0.Total]) rfl (cs':=[pv0_0,pv0_1,pv0_2,.int .i64 v_0.Sent,
   .int .i64 v_0.Total]) (Sep.m5 hS239) hW rfl (qi (SlF.one ph0_0) (qi (SlN.one hv192) (qi (SlG.one hv232) (qi rfl (qi rfl zk)))))
   (Nat.le_of_ble_eq_true rfl) rfl (fun h243 hS244=>?_)
 simp only [qe,qa,qz,B0,reduceIte,reduceEqDiff]
 obtain ⟨c245,hv246,hS247⟩:=SlG.cls (e':=(Picture.mk true x224 x200.In (List.set x200.Closed v_1.toNat true))) (c:=c231) (os:=c215++(c240)) hv232 rfl hx201 z7
   (Picture.RI (x:=(Picture.mk true x224 x200.In (List.set x200.Closed v_1.toNat true))) hv216 hv241) (Sep.ni2 (c1:=c215) (c2:=c240) (Sep.m3 (Sep.m3 (Sep.m1 hS244))))
 have hx248:=j7 (x':=(Picture.mk true x224 x200.In (List.set x200.Closed v_1.toNat true))) hx201
 have hv249:=SlG.toN hv246
 have he:=qk hF235
 subst he
 refine jr (qj (jv (bb:=b5) (oo:=0) (v := .agg [pv0_0,pv0_1,pv0_2,.int .i64 v_0.Sent,
   .int .i64 v_0.Total]) (f198) ((z0 (Sep.bk _ _ _ (Sep.m1 hS247))).trans rfl)) (qj (kz (v := .bool true) (rfl)) q9)) ?_
 exact ⟨pc0_0,c191,c245,by first | trivial | rfl,ph0_0,hv192,hv249,(Sep.m2 (Sep.m2 (Sep.dc (Sep.m1 hS247))))⟩
end Go.Proofs.Ytpkiieniipenjaa.X
namespace Go.Proofs.Ytpkiieniipenjaa.X
open Go
open Nat (reduceEqDiff)
theorem qip {W:Nat→Bool}{h:Heap}{lo:Nat→Prop}{S0:List Obj} (hW:∀ b,
  lo b→W b=true) (v_0:Snap) (pv0_0:XV) (pc0_0:List Obj) (ph0_0:SlF cI 1 3 pv0_0 v_0.Amounts pc0_0) (pv0_1:XV) (pc0_1:List Obj)
  (ph0_1:SlN Chan.R 3 74 pv0_1 v_0.Chans pc0_1) (pv0_2:XV) (pc0_2:List Obj) (ph0_2:SlN Picture.R 4 76 pv0_2 v_0.Pictures pc0_2) (v_1:Int) (r:Snap × Bool)
  (hF:qbc v_0 v_1=some r) (hS:Sep h lo (pc0_0++(pc0_1++(pc0_2++(S0))))) : Ret E W 73 [.agg [pv0_0,pv0_1,pv0_2,.int .i64 v_0.Sent,.int .i64 v_0.Total],
  .int .i64 v_1] h (fun v h'=>∃ rc0_0 rc0_1 rc0_2,v = .tup [.agg [pv0_0,pv0_1,pv0_2,.int .i64 r.1.Sent,.int .i64 r.1.Total],
  .bool r.2]∧SlF cI 1 3 pv0_0 r.1.Amounts rc0_0∧SlN Chan.R 3 74 pv0_1 r.1.Chans rc0_1∧SlN Picture.R 4 76 pv0_2 r.1.Pictures rc0_2∧Sep h' lo (rc0_0++(rc0_1 ++
  (rc0_2++(S0))))):=by
 refine Ret.of (fn:=x73) rfl (Run.of ?_)
 unfold qbc at hF
 have zf0:zh [.agg [pv0_0,pv0_1,pv0_2,.int .i64 v_0.Sent,.int .i64 v_0.Total],.int .i64 v_1] 0 = .agg [pv0_0,pv0_1,pv0_2,.int .i64 v_0.Sent,
   .int .i64 v_0.Total]:=rfl
 have zf1:zh [.agg [pv0_0,pv0_1,pv0_2,.int .i64 v_0.Sent,.int .i64 v_0.Total],.int .i64 v_1] 1 = .int .i64 v_1:=rfl
 generalize zh [.agg [pv0_0,pv0_1,pv0_2,.int .i64 v_0.Sent,.int .i64 v_0.Total],.int .i64 v_1]=fr0 at zf0 zf1 ⊢
 simp only [x73,qd,qc,kh,zf0,B0,reduceIte,reduceEqDiff]
 refine jt (cs:=[pv0_0,pv0_1,pv0_2,.int .i64 v_0.Sent,
   .int .i64 v_0.Total]) hS rfl rfl (qi (SlF.one ph0_0) (qi (SlN.one ph0_1) (qi (SlN.one ph0_2) (qi rfl (qi rfl zk))))) (fun b1 h2 hS3=>?_)
 simp only [jb,B0,reduceIte,reduceEqDiff]
 refine zv hS3 (fun b5 h6 hS7=>?_)
 simp only [qe,qa,qq9,qd,qc,qt,qb,Nat.reduceAdd,Nat.zero_add,Nat.add_zero,qu,qp,B0,reduceIte,reduceEqDiff]
 refine qh (v:=pv0_1) ((jj (Sep.bk _ _ _ (Sep.m1 hS7))).trans rfl) ?_
 obtain ⟨x9,hx10,hF11⟩:=qg hF
 simp only [zf1,qe,jg,B0,reduceIte,reduceEqDiff]
 obtain ⟨b12,hb13⟩:=SlN.isrow ph0_1 (jq hx10)
 refine qh (SlN.ia ph0_1 hb13 hx10) ?_
 obtain ⟨c14,cs15,os16,hv17,hR18,hS19⟩:=SlG.opn (SlN.toG ph0_1 hb13 Chan.RO.len) hx10 z7 Chan.RO.len (Sep.m3 hS7)
 obtain ⟨v21,c22,hv23,rfl,rfl⟩:=hR18
 have hS20:=Sep.no1 hS19
 simp only [qp,B0,reduceIte,reduceEqDiff]
 refine qh (v := .agg [.int .i64 x9.From,.int .i64 x9.To,v21]) ((SlG.lds (o:=0) hv17 rfl hx10 hS20 (Nat.le_of_ble_eq_true rfl)).trans rfl) ?_
 simp only [jb,B0,reduceIte,reduceEqDiff]
 refine zv hS20 (fun b25 h26 hS27=>?_)
 simp only [zj,B0,reduceIte,reduceEqDiff]
 refine qx (us:=[.int .i64 x9.From,.int .i64 x9.To,v21]) rfl (cs':=[.int .i64 x9.From,.int .i64 x9.To,
   v21]) hS27 hW rfl (qi rfl (qi rfl (qi (SlF.one hv23) zk))) (Nat.le_of_ble_eq_true rfl) rfl (fun h29 hS30=>?_)
 simp only [qa,B0,reduceIte,reduceEqDiff]
 refine zw hS30 hW (by simp only [B0,reduceIte,reduceEqDiff]) (fun h31 hS32=>?_)
 simp only [zo,qux,qd,qc,qt,qb,Nat.reduceAdd,Nat.zero_add,Nat.add_zero,qr,qp,B0,reduceIte,reduceEqDiff]
 refine qh (v:=v21) rfl ?_
 obtain ⟨x33,hx34,hF35⟩:=qg hF11
 simp only [jg,B0,reduceIte,reduceEqDiff]
 obtain ⟨b36,hb37⟩:=SlF.isrow hv23 (jq hx34)
 refine qh (SlF.ia hv23 hb37 hx34) ?_
 simp only [qp,B0,reduceIte,reduceEqDiff]
 refine qh (v := .int .i64 x33) ((SlF.ld (o:=0) hv23 (Sep.m1 hS32) hb37 hx34 (fun _=>rfl) (Nat.le_of_ble_eq_true rfl)).trans rfl) ?_
 simp only [qe,qa,qrb,qd,jd,qdw,qf,Nat.reduceAdd,Nat.zero_add,Nat.add_zero,qu,qbl,B0,reduceIte,reduceEqDiff]
 refine qhs (Sep.ltk (Sep.m3 hS32)) ?_
 refine qm (v:=pv0_1) ((jj (Sep.bk _ _ _ (Sep.m3 hS32))).trans rfl) ?_
 simp only [zf1,qhm,qf,u9,evp,B0,reduceIte,reduceEqDiff]
 refine uh (n:=1) (f:=cI) ([] : List Int) hS32 rfl rfl (fun v38 c39 h40 hv41 hS42=>?_)
 simp only [zi,qf,Nat.reduceAdd,Nat.zero_add,Nat.add_zero,qr,ze,B0,reduceIte,reduceEqDiff]
 refine qm (v:=v21) rfl ?_
 obtain ⟨l44,hx45,hF46⟩:=qg hF35
 simp only [q6x,Option.map_some,Option.map_none,B0,reduceIte,reduceEqDiff]
 obtain ⟨w47,i48,he49,hw50⟩:=SlF.win (f:=cI) (ty:=3) (some (1:Int)) none hv23 hx45 (Sep.m2 hS42)
 refine qm he49 ?_
 simp only [qez,B0,reduceIte,reduceEqDiff]
 obtain ⟨l51,hx52,hF53⟩:=qg hF46
 refine qij (qkv (fun z hz=>Sep.dj (Sep.m1 (Sep.m4 hS42)) qkw (SlF.rowfp hv41 z hz)) qgy) ?_
 refine qa2 (f:=cI) hv41 hS42 hW (fun _=>rfl) (fun _=>rfl) (SlW.first hw50 hv23 (Sep.m2 hS42) (fun _=>rfl)) hx52 (fun v54 c55 h56 hv57 hS58=>?_)
 simp only [jo,B0,reduceIte,reduceEqDiff]
 refine qm (SlG.ia hv17 hx10) ?_
 simp only [zi,qf,Nat.reduceAdd,Nat.zero_add,Nat.add_zero,qu,xj,B0,reduceIte,reduceEqDiff]
 refine qcc (us:=[v54]) (o:=2) (cs':=[.int .i64 x9.From,.int .i64 x9.To,
   v54]) (j6 (SlF.one hv57)) hv17 rfl hx10 (Sep.m1 hS58) hW rfl (qi (SlF.one hv57) zk) (Nat.le_of_ble_eq_true rfl) rfl (fun c62 h60 hv63 hS61=>?_)
 simp only [qs,qrp,qd,qc,qe,zf,qb,qe7,qa,q0d,zc,B0,reduceIte,reduceEqDiff]
 refine zb (t:=(decide ((0:Int)<x33))) (fun hc64=>?_) (fun hc64=>?_)
 ·rw [iteT hc64] at hF53
  simp only [q1s,qd,qc,qt,qb,Nat.reduceAdd,Nat.zero_add,Nat.add_zero,qu,qp,B0,reduceIte,reduceEqDiff]
  refine qh (v:=pv0_0) ((jj (Sep.bk _ _ _ (Sep.m4 hS61))).trans rfl) ?_
  simp only [qt,qb,Nat.reduceAdd,Nat.zero_add,Nat.add_zero,qr,qp,B0,reduceIte,reduceEqDiff]
  refine qh (v := .int .i64 x9.To) rfl ?_
  obtain ⟨x65,hx66,hF67⟩:=qg hF53
  simp only [jg,B0,reduceIte,reduceEqDiff]
  obtain ⟨b68,hb69⟩:=SlF.isrow ph0_0 (jq hx66)
  refine qh (SlF.ia ph0_0 hb69 hx66) ?_
  simp only [qp,B0,reduceIte,reduceEqDiff]
  refine qh (v := .int .i64 x65) ((SlF.ld (o:=0) ph0_0 (Sep.m5 hS61) hb69 hx66 (fun _=>rfl) (Nat.le_of_ble_eq_true rfl)).trans rfl) ?_
  simp only [qe,zf,qb,yz,jg,B0,reduceIte,reduceEqDiff]
  refine qh (SlF.ia ph0_0 hb69 hx66) ?_
  simp only [zj,B0,reduceIte,reduceEqDiff]
  refine qg4 (f:=cI) (x':=(IntKind.wrap .i64 (x65+x33))) (o:=0) ph0_0 (Sep.m5 hS61) hW hb69 hx66 (fun _=>rfl) rfl rfl (Nat.le_of_ble_eq_true rfl) rfl
    (fun c72 h70 hv73 hS71=>?_)
  have hx74:=j7 (x':=(IntKind.wrap .i64 (x65+x33))) hx66
  simp only [qa,q1d,qd,jd,zi,qf,Nat.reduceAdd,Nat.zero_add,Nat.add_zero,qu,ze,B0,reduceIte,reduceEqDiff]
  refine qm (v:=pv0_2) ((jj (Sep.bk _ _ _ (Sep.m5 hS71))).trans rfl) ?_
  simp only [zi,qf,Nat.reduceAdd,Nat.zero_add,Nat.add_zero,qr,ze,B0,reduceIte,reduceEqDiff]
  refine qm (v := .int .i64 x9.To) rfl ?_
  obtain ⟨x75,hx76,hF77⟩:=qg hF67
  simp only [jo,B0,reduceIte,reduceEqDiff]
  obtain ⟨b78,hb79⟩:=SlN.isrow ph0_2 (jq hx76)
  refine qm (SlN.ia ph0_2 hb79 hx76) ?_
  obtain ⟨c80,cs81,os82,hv83,hR84,hS85⟩:=SlG.opn (SlN.toG ph0_2 hb79 Picture.RO.len) hx76 z7 Picture.RO.len (Sep.m6 hS71)
  obtain ⟨v87,c88,v91,c92,hv89,hv93,rfl,rfl⟩:=hR84
  have hS86:=Sep.no2 hS85
  simp only [zi,qf,Nat.reduceAdd,Nat.zero_add,Nat.add_zero,qu,ze,B0,reduceIte,reduceEqDiff]
  refine qm (v := .bool x75.Taken) ((SlG.ld (o:=0) hv83 rfl hx76 hS86 (Nat.le_of_ble_eq_true rfl)).trans rfl) ?_
  simp only [zr,qf,B0,reduceIte,reduceEqDiff]
  obtain ⟨v98,hx99,hF100⟩:=qg hF77
  refine wo 13 (fun fr' h'=>Sep h' lo ([Blk1 b1 [pv0_0,pv0_1,pv0_2,.int .i64 v_0.Sent,.int .i64 v_0.Total] 30]++([Blk1 b5 [.nil,.nil,.nil,.int .i64 0,
    .int .i64 0] 30]++(c22++(c72++(c62++(c80++(c55++(c88++(c92 ++
    (S0))))))))))∧fr' 60 = .bool v98∧fr' 2 = .ptr b1 0∧fr' 4 = .ptr b5 0∧fr' 6 = .ref [.int .i64 x9.From,.int .i64 x9.To,
    v21] 0∧fr' 7 = .int .i64 x33) rfl (fun Q95 hN96=>?_) ?_
  ·simp only [List.take_succ_cons,List.take_zero]
   simp only [qn (g:=47),B0,reduceIte,reduceEqDiff]
   refine jf (t:=x75.Taken) (fun hg97=>?_) (fun hg97=>?_)
   ·rw [iteT hg97] at hx99
    simp only [hg97,qn (g:=47),z9,zi,qf,Nat.reduceAdd,Nat.zero_add,Nat.add_zero,qu,ze,B0,reduceIte,reduceEqDiff]
    refine qm (v:=pv0_2) ((jj (Sep.bk _ _ _ (Sep.m8 hS86))).trans rfl) ?_
    simp only [hg97,qn (g:=47),z9,zi,qf,Nat.reduceAdd,Nat.zero_add,Nat.add_zero,qr,ze,B0,reduceIte,reduceEqDiff]
    refine qm (v := .int .i64 x9.To) rfl ?_
    simp only [hg97,qn (g:=47),z9,jo,B0,reduceIte,reduceEqDiff]
    refine qm (SlG.ia hv83 hx76) ?_
    simp only [hg97,qn (g:=47),z9,zi,qf,Nat.reduceAdd,Nat.zero_add,Nat.add_zero,qu,ze,B0,reduceIte,reduceEqDiff]
    refine qm (v:=v91) ((SlG.ld (o:=3) hv83 rfl hx76 hS86 (Nat.le_of_ble_eq_true rfl)).trans rfl) ?_
    simp only [hg97,qn (g:=47),z9,zi,qf,Nat.reduceAdd,Nat.zero_add,Nat.add_zero,qr,ze,B0,reduceIte,reduceEqDiff]
    refine qm (v := .int .i64 x9.From) rfl ?_
    obtain ⟨x101,hx102,hF103⟩:=qg hx99
    simp only [hg97,qn (g:=47),z9,jo,B0,reduceIte,reduceEqDiff]
    obtain ⟨b104,hb105⟩:=SlF.isrow hv93 (jq hx102)
    refine qm (SlF.ia hv93 hb105 hx102) ?_
    simp only [hg97,qn (g:=47),z9,ze,B0,reduceIte,reduceEqDiff]
    refine qm (v := .bool x101) ((SlF.ld (o:=0) hv93 (Sep.m2 hS86) hb105 hx102 (fun _=>rfl) (Nat.le_of_ble_eq_true rfl)).trans rfl) ?_
    simp only [hg97,qn (g:=47),z9,qdv,qf,kf,z8,zp,qs,qo,B0,reduceIte,reduceEqDiff]
    have e106:=qk hF103
    exact hN96 _ _ ⟨(Sep.m8 (Sep.m7 (Sep.m6 (Sep.m5 (Sep.m5 (Sep.m3 (Sep.m5 (Sep.m2 (Sep.m2 hS86))))))))),by rw [←e106]; simp only [B0,reduceIte,reduceEqDiff],rfl,rfl,
      rfl,rfl⟩
   ·rw [iteF hg97] at hx99
    simp only [hg97,qn (g:=47),ud,z8,qf,zq,qs,qo,B0,reduceIte,reduceEqDiff]
    have e107:=qk hx99
    exact hN96 _ _ ⟨(Sep.m8 (Sep.m7 (Sep.m6 (Sep.m5 (Sep.m5 (Sep.m3 (Sep.m5 (Sep.m2 (Sep.m2 hS86))))))))),by rw [←e107]; simp only [B0,reduceIte,reduceEqDiff],rfl,rfl,
      rfl,rfl⟩
  rintro fr108 h114 ⟨hS115,f109,f110,f111,f112,f113⟩
  simp only [List.drop_succ_cons,List.drop_zero]
  simp only [qs,q5j,f109,zc,B0,reduceIte,reduceEqDiff]
  obtain ⟨c116,hv117,hS118⟩:=SlG.cls (e':=(Chan.mk x9.From x9.To l51)) (c:=c62) (os:=c55) hv63 rfl hx10 z7 (Chan.RI (x:=(Chan.mk x9.From x9.To l51)) hv57)
    (Sep.m5 (Sep.m6 hS115))
  have hx119:=j7 (x':=(Chan.mk x9.From x9.To l51)) hx10
  have hv120:=SlG.toN hv117
  obtain ⟨c121,hv122,hS123⟩:=SlG.cls0 (c:=c80) (os:=c88++(c92)) hv83 rfl hx76 z7 (Picture.RI (x:=x75) hv89 hv93) (Sep.ni2 (c1:=c88) (c2:=c92) (Sep.m7
    (Sep.m7 (Sep.m7 hS118))))
  have hv124:=SlG.toN hv122
  obtain ⟨s125,hX129,hk130⟩:=qg hF100
  refine u5 (t:=v98) (fun fr' h'=>∃ c126,fr' 2 = .ptr b1 0∧fr' 4 = .ptr b5 0∧SlN Picture.R 4 76 pv0_2 s125 c126∧Sep h' lo ([Blk1 b1 [pv0_0,pv0_1,pv0_2,
    .int .i64 v_0.Sent,.int .i64 v_0.Total] 30]++([Blk1 b5 [.nil,.nil,.nil,.int .i64 0,
    .int .i64 0] 30]++(c72++(c116++(c126++(S0))))))) (fun Q131 hN132 hR133 hE134=>⟨fun hc135=>?_,fun hc135=>?_⟩) ?_
  ·rw [iteT hc135] at hX129
   simp only [q0i,jd,f110,zi,qf,Nat.reduceAdd,Nat.zero_add,Nat.add_zero,qu,ze,B0,reduceIte,reduceEqDiff]
   refine qm (v:=pv0_2) ((jj (Sep.bk _ _ _ (Sep.m2 hS123))).trans rfl) ?_
   simp only [f112,zi,qf,Nat.reduceAdd,Nat.zero_add,Nat.add_zero,qr,ze,B0,reduceIte,reduceEqDiff]
   refine qm (v := .int .i64 x9.To) rfl ?_
   simp only [jo,B0,reduceIte,reduceEqDiff]
   refine qm (SlN.ia hv124 hb79 hx76) ?_
   obtain ⟨c136,cs137,os138,hv139,hR140,hS141⟩:=SlG.opn (SlN.toG hv124 hb79 Picture.RO.len) hx76 z7 Picture.RO.len hS123
   obtain ⟨v143,c144,v147,c148,hv145,hv149,rfl,rfl⟩:=hR140
   have hS142:=Sep.no2 hS141
   simp only [zi,qf,Nat.reduceAdd,Nat.zero_add,Nat.add_zero,qu,ze,B0,reduceIte,reduceEqDiff]
   refine qm (v:=v143) ((SlG.ld (o:=2) hv139 rfl hx76 hS142 (Nat.le_of_ble_eq_true rfl)).trans rfl) ?_
   simp only [f112,zi,qf,Nat.reduceAdd,Nat.zero_add,Nat.add_zero,qr,ze,B0,reduceIte,reduceEqDiff]
   refine qm (v := .int .i64 x9.From) rfl ?_
   obtain ⟨x151,hx152,hF153⟩:=qg hX129
   simp only [jo,B0,reduceIte,reduceEqDiff]
   obtain ⟨b154,hb155⟩:=SlF.isrow hv145 (jq hx152)
   refine qm (SlF.ia hv145 hb155 hx152) ?_
   simp only [ze,B0,reduceIte,reduceEqDiff]
   refine qm (v := .int .i64 x151) ((SlF.ld (o:=0) hv145 (Sep.m1 hS142) hb155 hx152 (fun _=>rfl) (Nat.le_of_ble_eq_true rfl)).trans rfl) ?_
   simp only [f113,zr,qf,kn,yz,jo,B0,reduceIte,reduceEqDiff]
   refine qm (SlF.ia hv145 hb155 hx152) ?_
   simp only [xj,B0,reduceIte,reduceEqDiff]
   refine uv (f:=cI) (x':=(IntKind.wrap .i64 (x151+x33))) (o:=0) hv145 (Sep.m1 hS142) hW hb155 hx152 (fun _=>rfl) rfl rfl (Nat.le_of_ble_eq_true rfl) rfl
     (fun c158 h156 hv159 hS157=>?_)
   have hx160:=j7 (x':=(IntKind.wrap .i64 (x151+x33))) hx152
   simp only [qs,qo,B0,reduceIte,reduceEqDiff]
   obtain ⟨c161,hv162,hS163⟩:=SlG.cls (e':=(Picture.mk x75.Taken x75.Amount (List.set x75.In x9.From.toNat (IntKind.wrap .i64 (x151+x33))) x75.Closed)) (c:=c136)
     (os:=c158++(c148)) hv139 rfl hx76 z7 (Picture.RI (x:=(Picture.mk x75.Taken x75.Amount (List.set x75.In x9.From.toNat (IntKind.wrap .i64
     (x151+x33))) x75.Closed)) hv159 hv149) (Sep.ni2 (c1:=c158) (c2:=c148) (Sep.m2 (Sep.m1 (Sep.m2 hS157))))
   have hx164:=j7 (x':=(Picture.mk x75.Taken x75.Amount (List.set x75.In x9.From.toNat (IntKind.wrap .i64 (x151+x33))) x75.Closed)) hx76
   have hv165:=SlG.toN hv162
   have e166:=qk hF153
   subst e166
   exact hN132 _ _ ⟨c161,f110,f111,hv165,(Sep.m4 (Sep.m4 (Sep.m4 (Sep.m1 (Sep.dc (Sep.m4 hS163))))))⟩
  ·rw [iteF hc135] at hX129
   simp only [zg,qo,B0,reduceIte,reduceEqDiff]
   have e167:=qk hX129
   subst e167
   exact hN132 _ _ ⟨c121,f110,f111,hv124,(Sep.m4 (Sep.m4 (Sep.m4 (Sep.m1 (Sep.dc (Sep.m4 hS123))))))⟩
  rintro fr168 h169 ⟨c126,f171,f172,hv127,hS170⟩
  unfold qdc at hk130
  simp only [qd,qc,f171,qp,B0,reduceIte,reduceEqDiff]
  refine qh (v := .agg [pv0_0,pv0_1,pv0_2,.int .i64 v_0.Sent,.int .i64 v_0.Total]) ((z0 (Sep.bk _ _ _ hS170)).trans rfl) ?_
  simp only [f172,zj,B0,reduceIte,reduceEqDiff]
  refine qx (us:=[pv0_0,pv0_1,pv0_2,.int .i64 v_0.Sent,.int .i64 v_0.Total]) rfl (cs':=[pv0_0,pv0_1,pv0_2,.int .i64 v_0.Sent,
    .int .i64 v_0.Total]) (Sep.m1 hS170) hW rfl (qi (SlF.one hv73) (qi (SlN.one hv120) (qi (SlN.one hv127) (qi rfl (qi rfl zk)))))
    (Nat.le_of_ble_eq_true rfl) rfl (fun h173 hS174=>?_)
  simp only [qe,qa,qz,B0,reduceIte,reduceEqDiff]
  have he:=qk hk130
  subst he
  refine jr (qj (jv (bb:=b5) (oo:=0) (v := .agg [pv0_0,pv0_1,pv0_2,.int .i64 v_0.Sent,
    .int .i64 v_0.Total]) (f172) ((z0 (Sep.bk _ _ _ hS174)).trans rfl)) (qj (kz (v := .bool true) (rfl)) q9)) ?_
  exact ⟨c72,c116,c126,by first | trivial | rfl,hv73,hv120,hv127,(Sep.m2 (Sep.m2 (Sep.m2 (Sep.dc ((Sep.dc (hS174)))))))⟩
 rw [iteF hc64] at hF53
 simp only [zg,qt7,qd,qc,qt,qb,Nat.reduceAdd,Nat.zero_add,Nat.add_zero,qu,qp,B0,reduceIte,reduceEqDiff]
 refine qh (v:=pv0_2) ((jj (Sep.bk _ _ _ (Sep.m4 hS61))).trans rfl) ?_
 simp only [qt,qb,Nat.reduceAdd,Nat.zero_add,Nat.add_zero,qr,qp,B0,reduceIte,reduceEqDiff]
 refine qh (v := .int .i64 x9.To) rfl ?_
 obtain ⟨x176,hx177,hF178⟩:=qg hF53
 simp only [jg,B0,reduceIte,reduceEqDiff]
 obtain ⟨b179,hb180⟩:=SlN.isrow ph0_2 (jq hx177)
 refine qh (SlN.ia ph0_2 hb180 hx177) ?_
 obtain ⟨c181,cs182,os183,hv184,hR185,hS186⟩:=SlG.opn (SlN.toG ph0_2 hb180 Picture.RO.len) hx177 z7 Picture.RO.len (Sep.m6 hS61)
 obtain ⟨v188,c189,v192,c193,hv190,hv194,rfl,rfl⟩:=hR185
 have hS187:=Sep.no2 hS186
 simp only [qt,qb,Nat.reduceAdd,Nat.zero_add,Nat.add_zero,qu,qp,B0,reduceIte,reduceEqDiff]
 refine qh (v := .bool x176.Taken) ((SlG.ld (o:=0) hv184 rfl hx177 hS187 (Nat.le_of_ble_eq_true rfl)).trans rfl) ?_
 simp only [jz,qb,kf,qa,qz2,zc,B0,reduceIte,reduceEqDiff]
 obtain ⟨c196,hv197,hS198⟩:=SlG.cls0 (c:=c181) (os:=c189++(c193)) hv184 rfl hx177 z7 (Picture.RI (x:=x176) hv190 hv194) (Sep.ni2 (c1:=c189) (c2:=c193)
   (Sep.m2 (Sep.m2 (Sep.m2 hS187))))
 have hv199:=SlG.toN hv197
 obtain ⟨c200,hv201,hS202⟩:=SlG.cls (e':=(Chan.mk x9.From x9.To l51)) (c:=c62) (os:=c55) hv63 rfl hx10 z7 (Chan.RI (x:=(Chan.mk x9.From x9.To l51)) hv57) (Sep.m2
   (Sep.m2 hS198))
 have hx203:=j7 (x':=(Chan.mk x9.From x9.To l51)) hx10
 have hv204:=SlG.toN hv201
 obtain ⟨oc215,hX216,hk217⟩:=jp hF178
 refine u5 (t:=(!x176.Taken)) (fun fr' h'=>∃ s,oc215 = .nxt s∧∃ c207 c210 c213,fr' 2 = .ptr b1 0∧fr' 4 = .ptr b5 0∧fr' 6 = .ref [.int .i64 x9.From,
   .int .i64 x9.To,v21] 0∧SlF cI 1 3 pv0_0 s.2.1 c207∧SlN Chan.R 3 74 pv0_1 s.2.2.1 c210∧SlN Picture.R 4 76 pv0_2 s.2.2.2 c213∧Sep h' lo ([Blk1 b1 [pv0_0,pv0_1,
   pv0_2,.int .i64 s.1.Sent,.int .i64 s.1.Total] 30]++([Blk1 b5 [.nil,.nil,.nil,.int .i64 0,
   .int .i64 0] 30]++(c22++(c207++(c210++(c213++(S0)))))))) (fun Q218 hN219 hR220 hE221=>⟨fun hc222=>?_,fun hc222=>?_⟩) ?_
 ·rw [iteT hc222] at hX216
  simp only [q00,qd,qc,qp,B0,reduceIte,reduceEqDiff]
  refine qh (v := .agg [pv0_0,pv0_1,pv0_2,.int .i64 v_0.Sent,.int .i64 v_0.Total]) ((z0 (Sep.bk _ _ _ (Sep.m4 hS202))).trans rfl) ?_
  simp only [qt,qb,Nat.reduceAdd,Nat.zero_add,Nat.add_zero,qr,qp,B0,reduceIte,reduceEqDiff]
  refine qh (v := .int .i64 x9.To) rfl ?_
  obtain ⟨v223,hx224,hF225⟩:=qg hX216
  simp only [zd,B0,reduceIte,reduceEqDiff]
  refine yp rfl (qfy hW (Snap.mk v_0.Amounts (List.set v_0.Chans v_1.toNat
    (Chan.mk x9.From x9.To l51)) v_0.Pictures v_0.Sent v_0.Total) pv0_0 pc0_0 ph0_0 pv0_1 c200 hv204 pv0_2 c196 hv199 x9.To v223 hx224 (Sep.m5 (Sep.m1 (Sep.m1 hS202)))) ?_
  rintro _ h232 ⟨c226,c228,c230,rfl,hv227,hv229,hv231,hS233⟩
  simp only [qe,wj,qb,w6,w5,jb,B0,reduceIte,reduceEqDiff]
  refine zv hS233 (fun b234 h235 hS236=>?_)
  simp only [zj,B0,reduceIte,reduceEqDiff]
  refine qx (us:=[pv0_0,pv0_1,pv0_2,.int .i64 v223.1.Sent,.int .i64 v223.1.Total]) rfl (cs':=[pv0_0,pv0_1,pv0_2,.int .i64 v223.1.Sent,
    .int .i64 v223.1.Total]) hS236 hW rfl (qi (SlF.one hv227) (qi (SlN.one hv229) (qi (SlN.one hv231) (qi rfl (qi rfl zk)))))
    (Nat.le_of_ble_eq_true rfl) rfl (fun h238 hS239=>?_)
  simp only [qe,qa,B0,reduceIte,reduceEqDiff]
  refine zw hS239 hW (by simp only [B0,reduceIte,reduceEqDiff]) (fun h240 hS241=>?_)
  simp only [zo,q1k,qd,qc,qe,jz,qb,kf,qa,q1g,zc,B0,reduceIte,reduceEqDiff]
  refine zb (t:=(!v223.2)) (fun hc242=>?_) (fun hc242=>?_)
  ·rw [iteT hc242] at hF225
   simp only [qd,qc,qp,B0,reduceIte,reduceEqDiff]
   refine qh (v := .agg [pv0_0,pv0_1,pv0_2,.int .i64 v_0.Sent,.int .i64 v_0.Total]) ((z0 (Sep.bk _ _ _ (Sep.m5 hS241))).trans rfl) ?_
   simp only [zj,B0,reduceIte,reduceEqDiff]
   refine qx (us:=[pv0_0,pv0_1,pv0_2,.int .i64 v_0.Sent,.int .i64 v_0.Total]) rfl (cs':=[pv0_0,pv0_1,pv0_2,.int .i64 v_0.Sent,
     .int .i64 v_0.Total]) (Sep.m4 hS241) hW rfl (qi (SlF.one hv227) (qi (SlN.one hv229) (qi (SlN.one hv231) (qi rfl (qi rfl zk)))))
     (Nat.le_of_ble_eq_true rfl) rfl (fun h243 hS244=>?_)
   simp only [qe,qa,qz,B0,reduceIte,reduceEqDiff]
   have e245:=qk hF225
   subst e245
   have hk217':=hk217
   dsimp only [jnO] at hk217'
   apply hR220
   have he:=qk hk217'
   subst he
   refine jr (qj (jv (bb:=b5) (oo:=0) (v := .agg [pv0_0,pv0_1,pv0_2,.int .i64 v_0.Sent,
     .int .i64 v_0.Total]) (rfl) ((z0 (Sep.bk _ _ _ hS244)).trans rfl)) (qj (kz (v := .bool false) (rfl)) q9)) ?_
   exact ⟨c226,c228,c230,by first | trivial | rfl,hv227,hv229,hv231,(Sep.m2 (Sep.m2 (Sep.m2 (Sep.dc (Sep.m3 (Sep.dc (Sep.m3 (Sep.dc (hS244)))))))))⟩
  rw [iteF hc242] at hF225
  simp only [zg,qc,qp,B0,reduceIte,reduceEqDiff]
  refine qh (v := .agg [pv0_0,pv0_1,pv0_2,.int .i64 v223.1.Sent,.int .i64 v223.1.Total]) rfl ?_
  simp only [zj,B0,reduceIte,reduceEqDiff]
  refine qx (us:=[pv0_0,pv0_1,pv0_2,.int .i64 v223.1.Sent,.int .i64 v223.1.Total]) rfl (cs':=[pv0_0,pv0_1,pv0_2,.int .i64 v223.1.Sent,
    .int .i64 v223.1.Total]) (Sep.m5 hS241) hW rfl (qi (SlF.one hv227) (qi (SlN.one hv229) (qi (SlN.one hv231) (qi rfl (qi rfl zk)))))
    (Nat.le_of_ble_eq_true rfl) rfl (fun h246 hS247=>?_)
  simp only [qa,qo,B0,reduceIte,reduceEqDiff]
  have e248:=qk hF225
  exact hN219 _ _ ⟨_,e248.symm,c226,c228,c230,rfl,rfl,rfl,hv227,hv229,hv231,(Sep.m5 (Sep.m5 (Sep.m4 (Sep.m3 (Sep.m3 (Sep.m3 hS247))))))⟩
 ·rw [iteF hc222] at hX216
  simp only [zg,qo,B0,reduceIte,reduceEqDiff]
  have e249:=qk hX216
  exact hN219 _ _ ⟨_,e249.symm,pc0_0,c200,c196,rfl,rfl,rfl,ph0_0,hv204,hv199,(Sep.m5 (Sep.m4 (Sep.m3 (Sep.m5 (Sep.m1 (Sep.m1 hS202))))))⟩
 rintro fr250 h251 ⟨⟨s205,s206,s209,s212⟩,rfl,c207,c210,c213,f253,f254,f255,hv208,hv211,hv214,hS252⟩
 dsimp only [jnO] at hk217
 dsimp only at *
 unfold qh6 at hk217
 simp only [qsz,qd,jd,f253,zi,qf,Nat.reduceAdd,Nat.zero_add,Nat.add_zero,qu,ze,B0,reduceIte,reduceEqDiff]
 refine qm (v:=pv0_2) ((jj (Sep.bk _ _ _ hS252)).trans rfl) ?_
 simp only [f255,zi,qf,Nat.reduceAdd,Nat.zero_add,Nat.add_zero,qr,ze,B0,reduceIte,reduceEqDiff]
 refine qm (v := .int .i64 x9.To) rfl ?_
 obtain ⟨x256,hx257,hF258⟩:=qg hk217
 simp only [jo,B0,reduceIte,reduceEqDiff]
 refine qm (SlN.ia hv214 hb180 hx257) ?_
 obtain ⟨c259,cs260,os261,hv262,hR263,hS264⟩:=SlG.opn (SlN.toG hv214 hb180 Picture.RO.len) hx257 z7 Picture.RO.len (Sep.m5 hS252)
 obtain ⟨v266,c267,v270,c271,hv268,hv272,rfl,rfl⟩:=hR263
 have hS265:=Sep.no2 hS264
 simp only [zi,qf,Nat.reduceAdd,Nat.zero_add,Nat.add_zero,qu,ze,B0,reduceIte,reduceEqDiff]
 refine qm (v:=v270) ((SlG.ld (o:=3) hv262 rfl hx257 hS265 (Nat.le_of_ble_eq_true rfl)).trans rfl) ?_
 simp only [f255,zi,qf,Nat.reduceAdd,Nat.zero_add,Nat.add_zero,qr,ze,B0,reduceIte,reduceEqDiff]
 refine qm (v := .int .i64 x9.From) rfl ?_
 obtain ⟨x274,hx275,hF276⟩:=qg hF258
 simp only [jo,B0,reduceIte,reduceEqDiff]
 obtain ⟨b277,hb278⟩:=SlF.isrow hv272 (jq hx275)
 refine qm (SlF.ia hv272 hb278 hx275) ?_
 simp only [xj,B0,reduceIte,reduceEqDiff]
 refine uv (f:=cB) (x':=true) (o:=0) hv272 (Sep.m2 hS265) hW hb278 hx275 (fun _=>rfl) rfl rfl (Nat.le_of_ble_eq_true rfl) rfl (fun c281 h279 hv282 hS280=>?_)
 have hx283:=j7 (x':=true) hx275
 simp only [qs,qd,qc,f253,qp,B0,reduceIte,reduceEqDiff]
 refine qh (v := .agg [pv0_0,pv0_1,pv0_2,.int .i64 s205.Sent,.int .i64 s205.Total]) ((z0 (Sep.bk _ _ _ (Sep.m3 hS280))).trans rfl) ?_
 simp only [f254,zj,B0,reduceIte,reduceEqDiff]
 refine qx (us:=[pv0_0,pv0_1,pv0_2,.int .i64 s205.Sent,.int .i64 s205.Total]) rfl (cs':=[pv0_0,pv0_1,pv0_2,.int .i64 s205.Sent,
   .int .i64 s205.Total]) (Sep.m4 hS280) hW rfl (qi (SlF.one hv208) (qi (SlN.one hv211) (qi (SlG.one hv262) (qi rfl (qi rfl zk)))))
   (Nat.le_of_ble_eq_true rfl) rfl (fun h284 hS285=>?_)
 simp only [qe,qa,qz,B0,reduceIte,reduceEqDiff]
 obtain ⟨c286,hv287,hS288⟩:=SlG.cls (e':=(Picture.mk x256.Taken x256.Amount x256.In (List.set x256.Closed x9.From.toNat true))) (c:=c259) (os:=c267 ++
   (c281)) hv262 rfl hx257 z7 (Picture.RI (x:=(Picture.mk x256.Taken x256.Amount x256.In (List.set x256.Closed x9.From.toNat true))) hv268 hv282) (Sep.ni2 (c1:=c267)
   (c2:=c281) (Sep.m3 (Sep.m3 (Sep.m1 hS285))))
 have hx289:=j7 (x':=(Picture.mk x256.Taken x256.Amount x256.In (List.set x256.Closed x9.From.toNat true))) hx257
 have hv290:=SlG.toN hv287
 have he:=qk hF276
 subst he
 refine jr (qj (jv (bb:=b5) (oo:=0) (v := .agg [pv0_0,pv0_1,pv0_2,.int .i64 s205.Sent,
   .int .i64 s205.Total]) (f254) ((z0 (Sep.bk _ _ _ (Sep.m1 hS288))).trans rfl)) (qj (kz (v := .bool true) (rfl)) q9)) ?_
 exact ⟨c207,c210,c286,by first | trivial | rfl,hv208,hv211,hv290,(Sep.m2 (Sep.m2 (Sep.dc (Sep.m1 (Sep.dc (Sep.m1 (Sep.dc (Sep.m1 hS288))))))))⟩
end Go.Proofs.Ytpkiieniipenjaa.X
