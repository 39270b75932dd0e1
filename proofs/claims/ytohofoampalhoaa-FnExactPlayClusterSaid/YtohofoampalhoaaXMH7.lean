/- The functions' code comes to what the plain functions say (7). -/
import Derived.Test.YtohofoampalhoaaXMH6
open Go.IntKind renaming wrap→a0a
open List renaming append_assoc→a0f,drop_succ_cons→t9,drop_zero→a0c,length→t6,nil_append→a0z,take_succ_cons→t8,take_zero→a0d
open Nat renaming add_zero→t5,reduceAdd→s5,reduceEqDiff→a9,zero_add→s9
open Go.Proofs.Ytohofoampalhoaa.X.Sep renaming dc→a0s,m1→a0l,m2→a0k,m3→a0e,m4→a0i,m6→a0v,m7→a0j,m8→t7
open Go.Proofs.Ytohofoampalhoaa.X.SlF renaming free1→a1r,ia→a2u,one→a0g,pf→a2p,snap→a06
open Go.Proofs.Ytohofoampalhoaa.X.SlN renaming free1→a4f,one→a10,snap→a3t
set_option linter.unusedVariables false
set_option linter.unusedSimpArgs false
set_option maxRecDepth 100000
namespace Go.Proofs.Ytohofoampalhoaa.X
open Go
theorem qhu {W:Nat→Bool}{h:Heap}{lo:Nat→Prop}{S0:List Obj} (hW:∀ b,
  lo b→W b=true) (k:Nat) (pv0:XV) (pc0:List Obj) (i0:List ClusterStep) (ph0:SlF za 4 62 pv0 i0 pc0) (k_1:Int) (r:Int × (List ClusterStep))
  (hF:w8 k i0 k_1=some r) (hS:Sep h lo (pc0++(S0))) : Ret E W 31 [pv0,.int .i64 k_1] h (fun v h'=>∃ ic0,
  v = .int .i64 r.1∧SlF za 4 62 pv0 r.2 ic0∧Sep h' lo (ic0++(S0))):=by
 refine Ret.of (fn:=x31) rfl (Run.of ?_)
 unfold w8 at hF
 have zf0:zb [pv0,.int .i64 k_1] 0=pv0:=rfl
 have zf1:zb [pv0,.int .i64 k_1] 1 = .int .i64 k_1:=rfl
 generalize zb [pv0,.int .i64 k_1]=fr0 at zf0 zf1 ⊢
 simp only [x31,qe,qc,qd,qa,qva,B0,reduceIte,a9]
 obtain ⟨oc13,hX15,hk16⟩:=jy hF
 simp only [quu]
 refine y8 (σ:=Int × Int × (List ClusterStep)) (fun s60=>wj s60.1 s60.2.1 s60.2.2) (fun s fr' h'=>∃ c9,
   fr' 0=pv0∧fr' 1 = .int .i64 s.1∧fr' 5 = .int .i64 s.2.1∧SlF za 4 62 pv0 s.2.2 c9∧Sep h' lo (c9++(S0))) hX15 ⟨pc0,zf0,zf1,rfl,ph0,
   hS⟩ (fun _ _ _ h=>h) ?_ ?_
 ·rintro ⟨s6,s7,s8⟩ fr25 h26 ⟨c9,f28,f29,f30,hv10,hS27⟩ oc14 hF17 hr18 Q19 hN20 hK21 hR22 hE23
  dsimp only at *
  unfold wj at hF17
  simp only [q02,qe,qc,f30,qd,f28,zy,qb,SlF.plen hv10,qv,k6,qa,qy,B0,reduceIte,a9]
  refine qu (t:=(decide (s7<(t6 s8:Int)))) (fun hc32=>?_) (fun hc32=>?_)
  ·rw [iteT hc32] at hF17
   obtain ⟨x33,hx34,hF35⟩:=qi hF17
   simp only [zf,q60,qe,kj,q1z,qc,f28,qd,f30,f29,ji,B0,reduceIte,a9]
   obtain ⟨b36,hb37⟩:=SlF.isrow hv10 (ka hx34)
   refine qg (a2u hv10 hb37 hx34) ?_
   simp only [qq,qb,s5,s9,t5,zd,zp,B0,reduceIte,a9]
   refine x6 (f:=za) (x':=(ClusterStep.mk s6 x33.K x33.To x33.N)) (o:=0) hv10 hS27 hW hb37 hx34 (fun _=>rfl) rfl rfl (nle rfl) rfl
     (fun c40 h38 hv41 hS39=>?_)
   have hx42:=kf (x':=(ClusterStep.mk s6 x33.K x33.To x33.N)) hx34
   simp only [qa,qzj,qe,qc,f29,qd,qv,qb,yx,q4y,f28,f30,ji,B0,reduceIte,a9]
   refine qg (a2u hv41 hb37 hx42) ?_
   simp only [qq,qb,s5,s9,t5,zd,zp,B0,reduceIte,a9]
   refine x6 (f:=za) (x':=(ClusterStep.mk s6 (a0a .i64 (s6+1)) x33.To x33.N)) (o:=1) hv41 hS39 hW hb37 hx42 (fun _=>rfl) rfl rfl
     (nle rfl) rfl (fun c45 h43 hv46 hS44=>?_)
   rw [List.set_set] at hv46
   have hx47:=kf (x':=(ClusterStep.mk s6 (a0a .i64 (s6+1)) x33.To x33.N)) hx34
   simp only [qa,q0a,qe,qc,qd,qv,qb,yx,q6g,f28,f30,ji,B0,reduceIte,a9]
   refine qg (a2u hv46 hb37 hx47) ?_
   simp only [qq,qb,s5,s9,t5,zd,zp,B0,reduceIte,a9]
   refine x6 (f:=za) (x':=(ClusterStep.mk s6 (a0a .i64 (s6+1)) (a0a .i64 ((a0a .i64 (s6+1))+1)) x33.N))
     (o:=2) hv46 hS44 hW hb37 hx47 (fun _=>rfl) rfl rfl (nle rfl) rfl (fun c50 h48 hv51 hS49=>?_)
   rw [List.set_set] at hv51
   have hx52:=kf (x':=(ClusterStep.mk s6 (a0a .i64 (s6+1)) (a0a .i64 ((a0a .i64 (s6+1))+1)) x33.N)) hx34
   simp only [qa,q1i,qe,qc,qd,qv,qb,yx,q5h,f28,f30,ji,B0,reduceIte,a9]
   refine qg (a2u hv51 hb37 hx52) ?_
   simp only [qq,qb,s5,s9,t5,zd,zp,B0,reduceIte,a9]
   refine x6 (f:=za) (x':=(ClusterStep.mk s6 (a0a .i64 (s6+1)) (a0a .i64 ((a0a .i64 (s6+1))+1)) (a0a .i64
     ((a0a .i64 ((a0a .i64 (s6+1))+1))+1)))) (o:=3) hv51 hS49 hW hb37 hx52 (fun _=>rfl) rfl rfl (nle rfl) rfl (fun c55 h53 hv56 hS54=>?_)
   rw [List.set_set] at hv56
   have hx57:=kf (x':=(ClusterStep.mk s6 (a0a .i64 (s6+1)) (a0a .i64 ((a0a .i64 (s6+1))+1)) (a0a .i64 ((a0a .i64
     ((a0a .i64 (s6+1))+1))+1)))) hx34
   simp only [qa,qc,qd,qv,qb,yx,yd,f30,qo,B0,reduceIte,a9]
   have e58:=qh hF35
   exact hN20 _ _ _ e58.symm ⟨c55,f28,rfl,rfl,hv56,hS54⟩
  rw [iteF hc32] at hF17
  simp only [yf,yc,yp,B0,reduceIte,a9]
  have e59:=qh hF17
  exact hK21 _ _ _ e59.symm ⟨c9,f28,f29,f30,hv10,hS27⟩
 rintro ⟨s61,s62,s63⟩ fr66 h67 rfl ⟨c64,f69,f70,f71,hv65,hS68⟩
 dsimp only [jnO] at hk16
 dsimp only at *
 unfold qc4 at hk16
 simp only [qe,qc,f70,qd,qa,qw,B0,reduceIte,a9]
 have he:=qh hk16
 subst he
 simp only [q9,B0,reduceIte,a9]
 exact ⟨c64,by first | trivial | rfl,hv65,hS68⟩
theorem ql3 {W:Nat→Bool}{h:Heap}{lo:Nat→Prop}{S0:List Obj} (hW:∀ b,
  lo b→W b=true) (k:Nat) (pv0:XV) (pc0:List Obj) (i0:List Bool) (ph0:SlF cB 1 4 pv0 i0 pc0) (k_1:Int) (r:Int × (List Bool))
  (hF:qb5 k i0 k_1=some r) (hS:Sep h lo (pc0++(S0))) : Ret E W 32 [pv0,.int .i64 k_1] h (fun v h'=>∃ ic0,
  v = .int .i64 r.1∧SlF cB 1 4 pv0 r.2 ic0∧Sep h' lo (ic0++(S0))):=by
 refine Ret.of (fn:=x32) rfl (Run.of ?_)
 unfold qb5 at hF
 have zf0:zb [pv0,.int .i64 k_1] 0=pv0:=rfl
 have zf1:zb [pv0,.int .i64 k_1] 1 = .int .i64 k_1:=rfl
 generalize zb [pv0,.int .i64 k_1]=fr0 at zf0 zf1 ⊢
 simp only [x32,qe,qc,qd,qa,q6p,B0,reduceIte,a9]
 obtain ⟨oc13,hX15,hk16⟩:=jy hF
 simp only [q47]
 refine y8 (σ:=Int × Int × (List Bool)) (fun s45=>qaa s45.1 s45.2.1 s45.2.2) (fun s fr' h'=>∃ c9,
   fr' 0=pv0∧fr' 1 = .int .i64 s.1∧fr' 5 = .int .i64 s.2.1∧SlF cB 1 4 pv0 s.2.2 c9∧Sep h' lo (c9++(S0))) hX15 ⟨pc0,zf0,zf1,rfl,ph0,hS⟩ (fun _ _ _ h=>h) ?_ ?_
 ·rintro ⟨s6,s7,s8⟩ fr25 h26 ⟨c9,f28,f29,f30,hv10,hS27⟩ oc14 hF17 hr18 Q19 hN20 hK21 hR22 hE23
  dsimp only at *
  unfold qaa at hF17
  simp only [q1d,qe,qc,f30,qd,f28,zy,qb,SlF.plen hv10,qv,k6,qa,qy,B0,reduceIte,a9]
  refine qu (t:=(decide (s7<(t6 s8:Int)))) (fun hc32=>?_) (fun hc32=>?_)
  ·rw [iteT hc32] at hF17
   obtain ⟨x33,hx34,hF35⟩:=qi hF17
   simp only [zf,q4v,qe,kj,q1o,qc,f28,qd,f30,f29,qv,qb,qri (n:=3) (by decide),k7,ji,B0,reduceIte,
     a9]
   obtain ⟨b36,hb37⟩:=SlF.isrow hv10 (ka hx34)
   refine qg (a2u hv10 hb37 hx34) ?_
   simp only [zp,B0,reduceIte,a9]
   refine x6 (f:=cB) (x':=(decide ((Int.tmod s6 3)=0))) (o:=0) hv10 hS27 hW hb37 hx34 (fun _=>rfl) rfl rfl (nle rfl) rfl (fun c40 h38 hv41 hS39=>?_)
   have hx42:=kf (x':=(decide ((Int.tmod s6 3)=0))) hx34
   simp only [qa,qc,f29,qd,qv,qb,yx,yd,f30,qo,B0,reduceIte,a9]
   have e43:=qh hF35
   exact hN20 _ _ _ e43.symm ⟨c40,f28,rfl,rfl,hv41,hS39⟩
  rw [iteF hc32] at hF17
  simp only [yf,yc,yp,B0,reduceIte,a9]
  have e44:=qh hF17
  exact hK21 _ _ _ e44.symm ⟨c9,f28,f29,f30,hv10,hS27⟩
 rintro ⟨s46,s47,s48⟩ fr51 h52 rfl ⟨c49,f54,f55,f56,hv50,hS53⟩
 dsimp only [jnO] at hk16
 dsimp only at *
 unfold qgq at hk16
 simp only [qe,qc,f55,qd,qa,qw,B0,reduceIte,a9]
 have he:=qh hk16
 subst he
 simp only [q9,B0,reduceIte,a9]
 exact ⟨c49,by first | trivial | rfl,hv50,hS53⟩
theorem qhs {W:Nat→Bool}{h:Heap} (hW:∀ b,
  (geL h.length) b→W b=true) (k:Nat) (i0:List Bool) (k_1:Int) (r:Int) (hF:qam k i0 k_1=some r) : Ret E W 33 [lst cB i0,
  .int .i64 k_1] h (fun v h'=>cut h.length h' E.sz false 9 v=some (.int .i64 r)):=by
 refine Ret.of (fn:=x33) rfl (Run.of ?_)
 unfold qam at hF
 have zf0:zb [lst cB i0,.int .i64 k_1] 0=lst cB i0:=rfl
 have zf1:zb [lst cB i0,.int .i64 k_1] 1 = .int .i64 k_1:=rfl
 generalize zb [lst cB i0,.int .i64 k_1]=fr0 at zf0 zf1 ⊢
 have hS:Sep h (geL h.length) []:=Sep.nil h
 simp only [x33,qe,qc,qd,qa,q3m,B0,reduceIte,a9]
 obtain ⟨oc7,hX9,hk10⟩:=jy hF
 simp only [q65]
 refine y8 (σ:=Int × Int) (fun s36=>u7 i0 s36.1 s36.2) (fun s fr' h'=>fr' 0=lst cB i0∧fr' 1 = .int .i64 s.1∧fr' 5 = .int .i64 s.2∧Sep h'
   (geL h.length) ([])) hX9 ⟨zf0,zf1,rfl,hS⟩ (fun _ _ _ h=>h) ?_ ?_
 ·rintro ⟨s3,s4⟩ fr19 h20 ⟨f22,f23,f24,hS21⟩ oc8 hF11 hr12 Q13 hN14 hK15 hR16 hE17
  dsimp only at *
  unfold u7 at hF11
  simp only [q4r,qe,qc,f24,qd,f22,zy,qb,je,qv,k6,qa,qy,B0,reduceIte,a9]
  refine qu (t:=(decide (s4<(t6 i0:Int)))) (fun hc26=>?_) (fun hc26=>?_)
  ·rw [iteT hc26] at hF11
   obtain ⟨x27,hx28,hF29⟩:=qi hF11
   simp only [zf,q66,qe,kj,q2k,qc,f22,qd,f24,ji,B0,reduceIte,a9]
   refine qg (v := .ref (cB x27) 0) (kw hx28 rfl) ?_
   simp only [qn,B0,reduceIte,a9]
   refine qg (v := .bool x27) rfl ?_
   simp only [f23,qd,qv,qb,qri (n:=3) (by decide),k7,qkx,qj4,qa,qy,B0,reduceIte,a9]
   refine qu (t:=(!(x27 == (decide ((Int.tmod s3 3)=0))))) (fun hc30=>?_) (fun hc30=>?_)
   ·rw [iteT hc30] at hF29
    simp only [qe,qc,qd,qa,qw,B0,reduceIte,a9]
    have e31:=qh hF29
    subst e31
    have ho32:=hr12 _ rfl
    have hk33:=hk10
    rw [ho32] at hk33
    dsimp only [jnO] at hk33
    apply hR16
    have he:=qh hk33
    subst he
    simp only [q9,B0,reduceIte,a9]
    exact rfl
   rw [iteF hc30] at hF29
   simp only [zf,qc,f23,qd,qv,qb,yx,qa,yd,f24,qo,B0,reduceIte,a9]
   have e34:=qh hF29
   exact hN14 _ _ _ e34.symm ⟨f22,rfl,rfl,hS21⟩
  rw [iteF hc26] at hF11
  simp only [yf,yc,yp,B0,reduceIte,a9]
  have e35:=qh hF11
  exact hK15 _ _ _ e35.symm ⟨f22,f23,f24,hS21⟩
 rintro ⟨s37,s38⟩ fr39 h40 rfl ⟨f42,f43,f44,hS41⟩
 dsimp only [jnO] at hk10
 dsimp only at *
 unfold qgp at hk10
 simp only [qe,qc,f43,qd,qa,qw,B0,reduceIte,a9]
 have he:=qh hk10
 subst he
 simp only [q9,B0,reduceIte,a9]
 exact rfl
theorem qgr {W:Nat→Bool}{h:Heap} (hW:∀ b,
  (geL h.length) b→W b=true) (k:Nat) (f0:Int) (d8:List ClusterStep) (r:Bool) (hF:wo k f0 d8=some r) : Ret E W 7 [.int .i64 f0,
  lst za d8] h (fun v h'=>cut h.length h' E.sz false 9 v=some (.bool r)):=by
 refine Ret.of (fn:=x7) rfl (Run.of ?_)
 unfold wo at hF
 have zf0:zb [.int .i64 f0,lst za d8] 0 = .int .i64 f0:=rfl
 have zf1:zb [.int .i64 f0,lst za d8] 1=lst za d8:=rfl
 generalize zb [.int .i64 f0,lst za d8]=fr0 at zf0 zf1 ⊢
 have hS:Sep h (geL h.length) []:=Sep.nil h
 obtain ⟨v1,hx2,hF3⟩:=qi hF
 simp only [x7,qe,qc,qd,qa,qzp,q3t,zf1,zi,B0,reduceIte,a9]
 refine ju rfl (ql z8 (ql qs zh)) (qij (fun b hb=>decide_eq_true hb) d8 1048576 v1 hx2) ?_
 simp only [qd,qa,q6b,qe,qc,qv,qb,k6,qy,B0,reduceIte,a9]
 refine qu (t:=(decide (v1<0))) (fun hc4=>?_) (fun hc4=>?_)
 ·rw [iteT hc4] at hF3
  simp only [qe,qc,qd,qa,qw,B0,reduceIte,a9]
  have he:=qh hF3
  subst he
  simp only [q9,B0,reduceIte,a9]
  exact rfl
 rw [iteF hc4] at hF3
 obtain ⟨v5,hx6,hF7⟩:=qi hF3
 simp only [zf,q27,qe,qc,zf0,qd,zf1,zi,B0,reduceIte,a9]
 refine qbx rfl hS (ql z8 zh) (uz (fun b hb=>decide_eq_true hb) k d8 v5 hx6) ?_
 rintro v8 h12 ⟨_,c9,rfl,hv10,hS13⟩
 refine ⟨_,qim (a1r hv10),hS13,(j9 (a2p hv10 (fun _=>rfl)) wl),fun h14 hS15=>?_⟩
 have hS16:Sep h14 (geL h.length) (c9++([])):=by simpa only [a0f,a0z] using hS15
 obtain ⟨v17,hx18,hF19⟩:=qi hF7
 simp only [zi,B0,reduceIte,a9]
 refine qbx rfl hS16 (ql qs (ql (a06 hv10 hS16 rfl (fun _=>rfl) (fun _=>rfl)) zh)) (qj8
   (fun b hb=>decide_eq_true hb) k f0 v5 v17 hx18) ?_
 rintro _ h36 ⟨v20,c21,v24,c25,v28,c29,v32,c33,rfl,hv22,hv26,hv30,hv34,hS37⟩
 refine ⟨_,qkc (qj (qis (qj rfl (qj rfl (qj (a1r hv22) (qj (a4f hv26) (qj (a1r hv30) zq)))))) (qj (qnt (a1r hv34))
   (qj rfl zq))),hS37,(j9 (a2p hv22 (fun _=>rfl)) (j9 (SlN.pf hv26 Node.RO) (j9 (a2p hv30 (fun _=>rfl)) (j9 (a2p hv34
   (fun _=>rfl)) wl)))),fun h38 hS39=>?_⟩
 have hS40:Sep h38 (geL h.length) (c21++(c25++(c29++(c33++(c9++([])))))):=by simpa only [a0f,a0z] using hS39
 simp only [qd,qb7,qb,qcb,qb1,qpe,kc,B0,reduceIte,a9]
 refine jp hS40 (fun b41 h42 hS43=>?_)
 simp only [zp,B0,reduceIte,a9]
 refine zm (us:=[.int .i64 v17.1.Truth.Epoch,.int .i64 v17.1.Truth.Leader,v20,v24,v28]) rfl (cs':=[.int .i64 v17.1.Truth.Epoch,.int .i64 v17.1.Truth.Leader,v20,
   v24,v28]) hS43 hW rfl (qj rfl (qj rfl (qj (a0g hv22) (qj (a10 hv26) (qj (a0g hv30) zq))))) (nle rfl) rfl (fun h45 hS46=>?_)
 simp only [qd,qa,B0,reduceIte,a9]
 refine jc hS46 hW (by simp only [B0,reduceIte,a9]) (fun h47 hS48=>?_)
 obtain ⟨v49,hx50,hF51⟩:=qi hF19
 simp only [jd,q1j,qe,qc,zf1,qd,zi,B0,reduceIte,a9]
 refine qbx rfl hS48 (ql z8 zh) (uz (fun b hb=>decide_eq_true hb) k d8 v49 hx50) ?_
 rintro v52 h56 ⟨_,c53,rfl,hv54,hS57⟩
 refine ⟨_,qim (a1r hv54),hS57,(j9 (a2p hv54 (fun _=>rfl)) wl),fun h58 hS59=>?_⟩
 have hS60:Sep h58 (geL h.length) (c53++(c21++(c25++(c29++(c33++(c9++([]))))))):=by simpa only [a0f,a0z] using hS59
 obtain ⟨v61,hx62,hF63⟩:=qi hF51
 simp only [qd,qa,q8j,qe,qc,zf0,zi,B0,reduceIte,a9]
 refine qbx rfl hS60 (ql qs (ql (a06 hv54 hS60 rfl (fun _=>rfl) (fun _=>rfl)) zh)) (qf5
   (fun b hb=>decide_eq_true hb) k f0 v49 v61 hx62) ?_
 rintro _ h80 ⟨v64,c65,v68,c69,v72,c73,v76,c77,rfl,hv66,hv70,hv74,hv78,hS81⟩
 refine ⟨_,qkc (qj (qis (qj rfl (qj rfl (qj (a1r hv66) (qj (a4f hv70) (qj (a1r hv74) zq)))))) (qj (qnt (a1r hv78))
   (qj rfl zq))),hS81,(j9 (a2p hv66 (fun _=>rfl)) (j9 (SlN.pf hv70 Node.RO) (j9 (a2p hv74 (fun _=>rfl)) (j9 (a2p hv78
   (fun _=>rfl)) wl)))),fun h82 hS83=>?_⟩
 have hS84:Sep h82 (geL h.length) (c65++(c69++(c73++(c77++(c53++(c21++(c25++(c29++(c33++(c9++([]))))))))))):=by simpa only [a0f,
   a0z] using hS83
 simp only [qd,qb7,qb,qcb,qb1,qpe,kc,B0,reduceIte,a9]
 refine jp hS84 (fun b85 h86 hS87=>?_)
 simp only [zp,B0,reduceIte,a9]
 refine zm (us:=[.int .i64 v61.1.Truth.Epoch,.int .i64 v61.1.Truth.Leader,v64,v68,v72]) rfl (cs':=[.int .i64 v61.1.Truth.Epoch,.int .i64 v61.1.Truth.Leader,v64,
   v68,v72]) hS87 hW rfl (qj rfl (qj rfl (qj (a0g hv66) (qj (a10 hv70) (qj (a0g hv74) zq))))) (nle rfl) rfl (fun h89 hS90=>?_)
 simp only [qd,qa,B0,reduceIte,a9]
 refine jc hS90 hW (by simp only [B0,reduceIte,a9]) (fun h91 hS92=>?_)
 simp only [jd,q7n,qe,qc,qn,B0,reduceIte,a9]
 refine qg (v := .agg [.int .i64 v61.1.Truth.Epoch,.int .i64 v61.1.Truth.Leader,v64,v68,v72]) rfl ?_
 simp only [qn,B0,reduceIte,a9]
 refine qg (v := .agg [.int .i64 v17.1.Truth.Epoch,.int .i64 v17.1.Truth.Leader,v20,v24,v28]) rfl ?_
 obtain ⟨v93,hx94,hF95⟩:=qi hF63
 simp only [zi,B0,reduceIte,a9]
 refine ju rfl (ql (jo (ql qs (ql qs (ql (a06 hv66 hS92 rfl (fun _=>rfl) (fun _=>rfl)) (ql (a3t hv70 _
   (a0l hS92) rfl Node.RO) (ql (a06 hv74 (a0k hS92) rfl (fun _=>rfl) (fun _=>rfl)) zh)))))) (ql (jo (ql qs (ql qs (ql
   (a06 hv22 (Sep.m5 hS92) rfl (fun _=>rfl) (fun _=>rfl)) (ql (a3t hv26 _ (a0v hS92) rfl Node.RO) (ql (a06 hv30 (a0j hS92) rfl (fun _=>rfl)
   (fun _=>rfl)) zh)))))) zh)) (qel (fun b hb=>decide_eq_true hb) k v61.1 v17.1 v93 hx94) ?_
 simp only [kh,qb,kz,qd,B0,reduceIte,a9]
 obtain ⟨v99,hx100,hF101⟩:=qi hF95
 refine jj 5 (fun fr' h'=>Sep h' (geL h.length) (c21++(c25++(c29++(c33++(c53++(c65++(c69++(c73++(c77 ++
   ([]))))))))))∧fr' 50 = .bool v99∧fr' 0 = .int .i64 f0∧fr' 1=lst za d8∧fr' 6 = .ref [.int .i64 v17.1.Truth.Epoch,.int .i64 v17.1.Truth.Leader,
   v20,v24,v28] 0∧fr' 7=v32∧fr' 8 = .bool v17.2.2∧fr' 9=v52∧fr' 10 = .ref [.int .i64 v61.1.Truth.Epoch,.int .i64 v61.1.Truth.Leader,v64,v68,
   v72] 0∧fr' 11=v76∧fr' 12 = .bool v61.2.2) (fun Q96 hN97=>?_) ?_
 ·simp only [t8,a0d]
  simp only [qf (g:=45),B0,reduceIte,a9]
  refine zj (t:=(!v93)) (fun hg98=>?_) (fun hg98=>?_)
  ·rw [iteT hg98] at hx100
   simp only [hg98,qf (g:=45),jr,qx,qb,zo,qa,qo,B0,reduceIte,a9]
   have e102:=qh hx100
   exact hN97 _ _ ⟨(t7 (t7 (t7 (t7 (a0i (a0e (a0e (a0e (a0e (a0s (Sep.m9 hS92))))))))))),by rw [←e102]; simp only [B0,reduceIte,
     a9],zf0,zf1,rfl,rfl,rfl,rfl,rfl,rfl,rfl⟩
  ·rw [iteF hg98] at hx100
   obtain ⟨v103,hx104,hF105⟩:=qi hx100
   simp only [hg98,qf (g:=45),q8,qd,zi,B0,reduceIte,a9]
   refine ju rfl (ql (a06 hv78 (a0e hS92) rfl (fun _=>rfl) (fun _=>rfl)) (ql (a06 hv34 (t7 hS92) rfl (fun _=>rfl) (fun _=>rfl)) zh))
     (qfj (fun b hb=>decide_eq_true hb) k v61.2.1 v17.2.1 v103 hx104) ?_
   simp only [hg98,qf (g:=45),q8,kh,qb,kz,qx,zn,qa,qo,B0,reduceIte,a9]
   have e106:=qh hF105
   exact hN97 _ _ ⟨(t7 (t7 (t7 (t7 (a0i (a0e (a0e (a0e (a0e (a0s (Sep.m9 hS92))))))))))),by rw [←e106]; simp only [B0,reduceIte,
     a9],zf0,zf1,rfl,rfl,rfl,rfl,rfl,rfl,rfl⟩
 rintro fr107 h118 ⟨hS119,f108,f109,f110,f111,f112,f113,f114,f115,f116,f117⟩
 simp only [t9,a0c]
 simp only [f108,qd,B0,reduceIte,a9]
 refine jj 4 (fun fr' h'=>Sep h' (geL h.length) (c21++(c25++(c29++(c33++(c53++(c65++(c69++(c73++(c77++([]))))))))))∧fr' 55 = .bool (v99 ||
   (!(v61.2.2 == v17.2.2)))∧fr' 0 = .int .i64 f0∧fr' 1=lst za d8∧fr' 6 = .ref [.int .i64 v17.1.Truth.Epoch,.int .i64 v17.1.Truth.Leader,v20,v24,
   v28] 0∧fr' 7=v32∧fr' 8 = .bool v17.2.2∧fr' 9=v52∧fr' 10 = .ref [.int .i64 v61.1.Truth.Epoch,.int .i64 v61.1.Truth.Leader,v64,v68,
   v72] 0∧fr' 11=v76∧fr' 12 = .bool v61.2.2) (fun Q120 hN121=>?_) ?_
 ·simp only [t8,a0d]
  simp only [qf (g:=51),B0,reduceIte,a9]
  refine zj (t:=v99) (fun hg122=>?_) (fun hg122=>?_)
  ·simp only [hg122,qf (g:=51),jr,qx,qb,zo,qa,qo,B0,reduceIte,a9]
   exact hN121 _ _ ⟨(t7 (t7 (t7 (t7 (t7 (t7 (t7 (t7 (t7 hS119))))))))),by rw [orT hg122]; simp only [B0,reduceIte,a9],f109,
     f110,f111,f112,f113,f114,f115,f116,f117⟩
  ·simp only [hg122,qf (g:=51),q8,f117,qd,f113,qkx,qb,qj4,qx,zn,qa,qo,B0,reduceIte,a9]
   exact hN121 _ _ ⟨(t7 (t7 (t7 (t7 (t7 (t7 (t7 (t7 (t7 hS119))))))))),by rw [orF hg122]; simp only [B0,reduceIte,a9],f109,
     f110,f111,f112,f113,f114,f115,f116,f117⟩
 rintro fr123 h134 ⟨hS135,f124,f125,f126,f127,f128,f129,f130,f131,f132,f133⟩
 simp only [t9,a0c]
 simp only [qa,f124,qy,B0,reduceIte,a9]
 refine qu (t:=(v99||(!(v61.2.2 == v17.2.2)))) (fun hc136=>?_) (fun hc136=>?_)
 ·rw [iteT hc136] at hF101
  simp only [qe,qc,qd,qa,qw,B0,reduceIte,a9]
  have he:=qh hF101
  subst he
  simp only [q9,B0,reduceIte,a9]
  exact rfl
 rw [iteF hc136] at hF101
 obtain ⟨v137,hx138,hF139⟩:=qi hF101
 simp only [zf,q4b,qe,qc,f130,qd,f126,zi,B0,reduceIte,a9]
 refine qbx rfl hS135 (ql z8 zh) (uz (fun b hb=>decide_eq_true hb) k d8 v137 hx138) ?_
 rintro v140 h144 ⟨_,c141,rfl,hv142,hS145⟩
 refine ⟨_,qim (a1r hv142),hS145,(j9 (a2p hv142 (fun _=>rfl)) wl),fun h146 hS147=>?_⟩
 have hS148:Sep h146 (geL h.length) (c141++(c21++(c25++(c29++(c33++(c53++(c65++(c69++(c73++(c77++([]))))))))))):=by simpa only [a0f,
   a0z] using hS147
 obtain ⟨v149,hx150,hF151⟩:=qi hF139
 simp only [zi,B0,reduceIte,a9]
 refine ju rfl (ql (a06 hv54 (Sep.m5 hS148) rfl (fun _=>rfl) (fun _=>rfl)) (ql (a06 hv142 hS148 rfl (fun _=>rfl) (fun _=>rfl)) zh))
   (qio (fun b hb=>decide_eq_true hb) k v49 v137 v149 hx150) ?_
 simp only [kh,qb,kz,qa,qy,B0,reduceIte,a9]
 refine qu (t:=(!v149)) (fun hc152=>?_) (fun hc152=>?_)
 ·rw [iteT hc152] at hF151
  simp only [qe,qc,qd,qa,qw,B0,reduceIte,a9]
  have he:=qh hF151
  subst he
  simp only [q9,B0,reduceIte,a9]
  exact rfl
 rw [iteF hc152] at hF151
 obtain ⟨v153,hx154,hF155⟩:=qi hF151
 simp only [zf,q6j,qe,qc,qd,qa,q0w,f130,zi,B0,reduceIte,a9]
 refine wc rfl (qhu hW k v52 c53 v49 hv54 1 v153 hx154 (Sep.m5 hS148)) ?_
 rintro _ h158 ⟨c156,rfl,hv157,hS159⟩
 simp only [qd,qa,q6y,qe,qc,qv,qb,k6,B0,reduceIte,a9]
 obtain ⟨v163,hx164,hF165⟩:=qi hF155
 refine jj 5 (fun fr' h'=>Sep h' (geL h.length) (c21++(c25++(c29++(c33++(c65++(c69++(c73++(c77 ++
   ([])))))))))∧fr' 71 = .bool v163∧fr' 0 = .int .i64 f0∧fr' 1=lst za d8∧fr' 6 = .ref [.int .i64 v17.1.Truth.Epoch,.int .i64 v17.1.Truth.Leader,
   v20,v24,v28] 0∧fr' 7=v32∧fr' 8 = .bool v17.2.2∧fr' 10 = .ref [.int .i64 v61.1.Truth.Epoch,.int .i64 v61.1.Truth.Leader,v64,v68,
   v72] 0∧fr' 11=v76∧fr' 12 = .bool v61.2.2) (fun Q160 hN161=>?_) ?_
 ·simp only [t8,a0d]
  simp only [qf (g:=66),B0,reduceIte,a9]
  refine zj (t:=(decide (v153.1<0))) (fun hg162=>?_) (fun hg162=>?_)
  ·rw [iteT hg162] at hx164
   simp only [hg162,qf (g:=66),jr,qx,qb,zo,qa,qo,B0,reduceIte,a9]
   have e166:=qh hx164
   exact hN161 _ _ ⟨(a0j (a0j (a0j (a0j (a0j (a0j (a0j (a0j (a0s ((a0s (hS159)))))))))))),by rw [←e166]; simp only [B0,reduceIte,
     a9],f125,f126,f127,f128,f129,f131,f132,f133⟩
  ·rw [iteF hg162] at hx164
   simp only [hg162,qf (g:=66),q8,f131,qn,B0,reduceIte,a9]
   refine qg (v := .agg [.int .i64 v61.1.Truth.Epoch,.int .i64 v61.1.Truth.Leader,v64,v68,v72]) rfl ?_
   simp only [hg162,qf (g:=66),q8,f127,qn,B0,reduceIte,a9]
   refine qg (v := .agg [.int .i64 v17.1.Truth.Epoch,.int .i64 v17.1.Truth.Leader,v20,v24,v28]) rfl ?_
   obtain ⟨v167,hx168,hF169⟩:=qi hx164
   simp only [hg162,qf (g:=66),q8,zi,B0,reduceIte,a9]
   refine ju rfl (ql (jo (ql qs (ql qs (ql (a06 hv66 (a0v hS159) rfl (fun _=>rfl) (fun _=>rfl)) (ql (a3t hv70 _
     (a0j hS159) rfl Node.RO) (ql (a06 hv74 (t7 hS159) rfl (fun _=>rfl) (fun _=>rfl)) zh)))))) (ql (jo (ql qs (ql qs (ql
     (a06 hv22 (a0k hS159) rfl (fun _=>rfl) (fun _=>rfl)) (ql (a3t hv26 _ (a0e hS159) rfl Node.RO) (ql (a06 hv30 (a0i hS159) rfl
     (fun _=>rfl) (fun _=>rfl)) zh)))))) zh)) (qel (fun b hb=>decide_eq_true hb) k v61.1 v17.1 v167 hx168) ?_
   simp only [hg162,qf (g:=66),q8,kh,qb,kz,qx,zn,qa,qo,B0,reduceIte,a9]
   have e170:=qh hF169
   exact hN161 _ _ ⟨(a0j (a0j (a0j (a0j (a0j (a0j (a0j (a0j (a0s ((a0s (hS159)))))))))))),by rw [←e170]; simp only [B0,reduceIte,
     a9],f125,f126,f127,f128,f129,f131,f132,f133⟩
 rintro fr171 h181 ⟨hS182,f172,f173,f174,f175,f176,f177,f178,f179,f180⟩
 simp only [t9,a0c]
 simp only [f172,qd,B0,reduceIte,a9]
 obtain ⟨v186,hx187,hF188⟩:=qi hF165
 refine jj 5 (fun fr' h'=>Sep h' (geL h.length) (c21++(c25++(c29++(c33++(c65++(c69++(c73++(c77 ++
   ([])))))))))∧fr' 77 = .bool v186∧fr' 0 = .int .i64 f0∧fr' 1=lst za d8∧fr' 6 = .ref [.int .i64 v17.1.Truth.Epoch,.int .i64 v17.1.Truth.Leader,
   v20,v24,v28] 0∧fr' 7=v32∧fr' 8 = .bool v17.2.2∧fr' 10 = .ref [.int .i64 v61.1.Truth.Epoch,.int .i64 v61.1.Truth.Leader,v64,v68,
   v72] 0∧fr' 11=v76∧fr' 12 = .bool v61.2.2) (fun Q183 hN184=>?_) ?_
 ·simp only [t8,a0d]
  simp only [qf (g:=72),B0,reduceIte,a9]
  refine zj (t:=v163) (fun hg185=>?_) (fun hg185=>?_)
  ·rw [iteT hg185] at hx187
   simp only [hg185,qf (g:=72),jr,qx,qb,zo,qa,qo,B0,reduceIte,a9]
   have e189:=qh hx187
   exact hN184 _ _ ⟨(a0j (a0j (a0j (a0j (a0j (a0j (a0j (a0j hS182)))))))),by rw [←e189]; simp only [B0,reduceIte,a9],f173,f174,f175,
     f176,f177,f178,f179,f180⟩
  ·rw [iteF hg185] at hx187
   obtain ⟨v190,hx191,hF192⟩:=qi hx187
   simp only [hg185,qf (g:=72),q8,f179,qd,f176,zi,B0,reduceIte,a9]
   refine ju rfl (ql (a06 hv78 (a0j hS182) rfl (fun _=>rfl) (fun _=>rfl)) (ql (a06 hv34 (a0e hS182) rfl (fun _=>rfl) (fun _=>rfl)) zh))
     (qfj (fun b hb=>decide_eq_true hb) k v61.2.1 v17.2.1 v190 hx191) ?_
   simp only [hg185,qf (g:=72),q8,kh,qb,kz,qx,zn,qa,qo,B0,reduceIte,a9]
   have e193:=qh hF192
   exact hN184 _ _ ⟨(a0j (a0j (a0j (a0j (a0j (a0j (a0j (a0j hS182)))))))),by rw [←e193]; simp only [B0,reduceIte,a9],f173,f174,f175,
     f176,f177,f178,f179,f180⟩
 rintro fr194 h204 ⟨hS205,f195,f196,f197,f198,f199,f200,f201,f202,f203⟩
 simp only [t9,a0c]
 simp only [f195,qd,B0,reduceIte,a9]
 refine jj 4 (fun fr' h'=>Sep h' (geL h.length) (c21++(c25++(c29++(c33++(c65++(c69++(c73++(c77++([])))))))))∧fr' 82 = .bool (v186 ||
   (!(v61.2.2 == v17.2.2)))∧fr' 0 = .int .i64 f0∧fr' 1=lst za d8∧fr' 6 = .ref [.int .i64 v17.1.Truth.Epoch,.int .i64 v17.1.Truth.Leader,v20,v24,
   v28] 0∧fr' 7=v32∧fr' 8 = .bool v17.2.2∧fr' 10 = .ref [.int .i64 v61.1.Truth.Epoch,.int .i64 v61.1.Truth.Leader,v64,v68,
   v72] 0∧fr' 11=v76) (fun Q206 hN207=>?_) ?_
 ·simp only [t8,a0d]
  simp only [qf (g:=78),B0,reduceIte,a9]
  refine zj (t:=v186) (fun hg208=>?_) (fun hg208=>?_)
  ·simp only [hg208,qf (g:=78),jr,qx,qb,zo,qa,qo,B0,reduceIte,a9]
   exact hN207 _ _ ⟨(a0j (a0j (a0j (a0j (a0j (a0j (a0j (a0j hS205)))))))),by rw [orT hg208]; simp only [B0,reduceIte,a9],f196,f197,f198,
     f199,f200,f201,f202⟩
  ·simp only [hg208,qf (g:=78),q8,f203,qd,f200,qkx,qb,qj4,qx,zn,qa,qo,B0,reduceIte,a9]
   exact hN207 _ _ ⟨(a0j (a0j (a0j (a0j (a0j (a0j (a0j (a0j hS205)))))))),by rw [orF hg208]; simp only [B0,reduceIte,a9],f196,f197,f198,
     f199,f200,f201,f202⟩
 rintro fr209 h218 ⟨hS219,f210,f211,f212,f213,f214,f215,f216,f217⟩
 simp only [t9,a0c]
 simp only [qa,f210,qy,B0,reduceIte,a9]
 refine qu (t:=(v186||(!(v61.2.2 == v17.2.2)))) (fun hc220=>?_) (fun hc220=>?_)
 ·rw [iteT hc220] at hF188
  simp only [qe,qc,qd,qa,qw,B0,reduceIte,a9]
  have he:=qh hF188
  subst he
  simp only [q9,B0,reduceIte,a9]
  exact rfl
 rw [iteF hc220] at hF188
 simp only [zf,q42,qe,qc,qd,qa,q1q,f216,qn,B0,reduceIte,a9]
 refine qg (v := .agg [.int .i64 v61.1.Truth.Epoch,.int .i64 v61.1.Truth.Leader,v64,v68,v72]) rfl ?_
 obtain ⟨v221,hx222,hF223⟩:=qi hF188
 simp only [qd,zi,B0,reduceIte,a9]
 refine wc rfl (qj7 hW k v61.1 v64 c65 hv66 v68 c69 hv70 v72 c73 hv74 1 v221 hx222 (a0v (a0v (a0v hS219)))) ?_
 rintro _ h230 ⟨c224,c226,c228,rfl,hv225,hv227,hv229,hS231⟩
 obtain ⟨v232,hx233,hF234⟩:=qi hF223
 simp only [qd,qa,q39,qe,qc,f217,zi,B0,reduceIte,a9]
 refine wc rfl (ql3 hW k v76 c77 v61.2.1 hv78 v221.1 v232 hx233 (a0j hS231)) ?_
 rintro _ h237 ⟨c235,rfl,hv236,hS238⟩
 simp only [qd,qa,q37,qe,qc,q6w,f216,qn,B0,reduceIte,a9]
 refine qg (v := .agg [.int .i64 v61.1.Truth.Epoch,.int .i64 v61.1.Truth.Leader,v64,v68,v72]) rfl ?_
 obtain ⟨v239,hx240,hF241⟩:=qi hF234
 simp only [qd,zi,B0,reduceIte,a9]
 refine ju rfl (ql (jo (ql qs (ql qs (ql (a06 hv225 (a0l hS238) rfl (fun _=>rfl) (fun _=>rfl)) (ql (a3t hv227 _
   (a0k hS238) rfl Node.RO) (ql (a06 hv229 (a0e hS238) rfl (fun _=>rfl) (fun _=>rfl)) zh)))))) (ql qs zh)) (qgd
   (fun b hb=>decide_eq_true hb) k (Cluster.mk (View.mk v61.1.Truth.Epoch v61.1.Truth.Leader v221.2.Truth.InStep) v221.2.Nodes v221.2.Acked) 1 v239 hx240) ?_
 simp only [qd,qa,q06,qe,qc,qv,qb,k6,qy,B0,reduceIte,a9]
 refine qu (t:=(decide (v239<0))) (fun hc242=>?_) (fun hc242=>?_)
 ·rw [iteT hc242] at hF241
  simp only [qe,qc,qd,qa,qw,B0,reduceIte,a9]
  have he:=qh hF241
  subst he
  simp only [q9,B0,reduceIte,a9]
  exact rfl
 rw [iteF hc242] at hF241
 obtain ⟨v243,hx244,hF245⟩:=qi hF241
 simp only [zf,q5v,qe,qc,f217,qd,zi,B0,reduceIte,a9]
 refine ju rfl (ql (a06 hv236 hS238 rfl (fun _=>rfl) (fun _=>rfl)) (ql qs zh)) (qhs
   (fun b hb=>decide_eq_true hb) k v232.2 v239 v243 hx244) ?_
 simp only [qd,qa,qzf,qe,qc,qv,qb,k6,qy,B0,reduceIte,a9]
 refine qu (t:=(decide (v243<0))) (fun hc246=>?_) (fun hc246=>?_)
 ·rw [iteT hc246] at hF245
  simp only [qe,qc,qd,qa,qw,B0,reduceIte,a9]
  have he:=qh hF245
  subst he
  simp only [q9,B0,reduceIte,a9]
  exact rfl
 rw [iteF hc246] at hF245
 simp only [zf,zba,qe,qc,qd,qv,qb,ya,qa,qy,B0,reduceIte,a9]
 refine qu (t:=(decide (v243≠v232.1))) (fun hc247=>?_) (fun hc247=>?_)
 ·rw [iteT hc247] at hF245
  simp only [qe,qc,qd,qa,qw,B0,reduceIte,a9]
  have he:=qh hF245
  subst he
  simp only [q9,B0,reduceIte,a9]
  exact rfl
 rw [iteF hc247] at hF245
 obtain ⟨v248,hx249,hF250⟩:=qi hF245
 simp only [zf,zb4,qe,qc,f211,qd,f212,zi,B0,reduceIte,a9]
 refine qbx rfl hS238 (ql z8 zh) (uz (fun b hb=>decide_eq_true hb) k d8 v248 hx249) ?_
 rintro v251 h255 ⟨_,c252,rfl,hv253,hS256⟩
 refine ⟨_,qim (a1r hv253),hS256,(j9 (a2p hv253 (fun _=>rfl)) wl),fun h257 hS258=>?_⟩
 have hS259:Sep h257 (geL h.length) (c252++(c235++(c224++(c226++(c228++(c21++(c25++(c29++(c33++([])))))))))):=by simpa only [a0f,
   a0z] using hS258
 obtain ⟨v260,hx261,hF262⟩:=qi hF250
 simp only [zi,B0,reduceIte,a9]
 refine qbx rfl hS259 (ql qs (ql (a06 hv253 hS259 rfl (fun _=>rfl) (fun _=>rfl)) zh)) (qf5
   (fun b hb=>decide_eq_true hb) k f0 v248 v260 hx261) ?_
 rintro _ h279 ⟨v263,c264,v267,c268,v271,c272,v275,c276,rfl,hv265,hv269,hv273,hv277,hS280⟩
 refine ⟨_,qkc (qj (qis (qj rfl (qj rfl (qj (a1r hv265) (qj (a4f hv269) (qj (a1r hv273) zq)))))) (qj (qnt
   (a1r hv277)) (qj rfl zq))),hS280,
   (j9 (a2p hv265 (fun _=>rfl)) (j9 (SlN.pf hv269 Node.RO) (j9 (a2p hv273 (fun _=>rfl)) (j9 (a2p hv277 (fun _=>rfl)) wl)))),
   fun h281 hS282=>?_⟩
 have hS283:Sep h281 (geL h.length) (c264++(c268++(c272++(c276++(c252++(c235++(c224++(c226++(c228++(c21++(c25++(c29++(c33 ++
   ([])))))))))))))):=by simpa only [a0f,a0z] using hS282
 simp only [qd,qb7,qb,qcb,qb1,qpe,kc,B0,reduceIte,a9]
 refine jp hS283 (fun b284 h285 hS286=>?_)
 simp only [zp,B0,reduceIte,a9]
 refine zm (us:=[.int .i64 v260.1.Truth.Epoch,.int .i64 v260.1.Truth.Leader,v263,v267,v271]) rfl (cs':=[.int .i64 v260.1.Truth.Epoch,
   .int .i64 v260.1.Truth.Leader,v263,v267,
   v271]) hS286 hW rfl (qj rfl (qj rfl (qj (a0g hv265) (qj (a10 hv269) (qj (a0g hv273) zq))))) (nle rfl) rfl (fun h288 hS289=>?_)
 simp only [qd,qa,B0,reduceIte,a9]
 refine jc hS289 hW (by simp only [B0,reduceIte,a9]) (fun h290 hS291=>?_)
 simp only [jd,za4,qe,qc,qn,B0,reduceIte,a9]
 refine qg (v := .agg [.int .i64 v260.1.Truth.Epoch,.int .i64 v260.1.Truth.Leader,v263,v267,v271]) rfl ?_
 simp only [f213,qn,B0,reduceIte,a9]
 refine qg (v := .agg [.int .i64 v17.1.Truth.Epoch,.int .i64 v17.1.Truth.Leader,v20,v24,v28]) rfl ?_
 obtain ⟨v292,hx293,hF294⟩:=qi hF262
 simp only [zi,B0,reduceIte,a9]
 refine ju rfl (ql (jo (ql qs (ql qs (ql (a06 hv265 hS291 rfl (fun _=>rfl) (fun _=>rfl)) (ql (a3t hv269 _
   (a0l hS291) rfl Node.RO) (ql (a06 hv273 (a0k hS291) rfl (fun _=>rfl) (fun _=>rfl)) zh)))))) (ql (jo (ql qs (ql qs (ql
   (a06 hv22 (Sep.m9 hS291) rfl (fun _=>rfl) (fun _=>rfl)) (ql (a3t hv26 _ (Sep.m10 hS291) rfl Node.RO) (ql (a06 hv30 (Sep.m11 hS291) rfl
   (fun _=>rfl) (fun _=>rfl)) zh)))))) zh)) (qel (fun b hb=>decide_eq_true hb) k v260.1 v17.1 v292 hx293) ?_
 simp only [kh,qb,kz,qd,B0,reduceIte,a9]
 obtain ⟨v298,hx299,hF300⟩:=qi hF294
 refine jj 5 (fun fr' h'=>Sep h' (geL h.length) (c224++(c226++(c228++(c235 ++
   ([])))))∧fr' 119 = .bool v298∧fr' 8 = .bool v17.2.2∧fr' 10 = .ref [.int .i64 v61.1.Truth.Epoch,.int .i64 v61.1.Truth.Leader,v64,v68,
   v72] 0∧fr' 11=v76∧fr' 14 = .int .i64 v232.1∧fr' 18 = .bool v260.2.2) (fun Q295 hN296=>?_) ?_
 ·simp only [t8,a0d]
  simp only [qf (g:=114),B0,reduceIte,a9]
  refine zj (t:=(!v292)) (fun hg297=>?_) (fun hg297=>?_)
  ·rw [iteT hg297] at hx299
   simp only [hg297,qf (g:=114),jr,qx,qb,zo,qa,qo,B0,reduceIte,a9]
   have e301:=qh hx299
   exact hN296 _ _ ⟨(a0e (a0e (a0e (a0s (a0i (a0s (a0i (a0s (a0i (a0s (a0i (a0s ((a0s ((a0s ((a0s ((a0s
     (hS291))))))))))))))))))))),by rw [←e301]; simp only [B0,reduceIte,a9],f215,f216,f217,rfl,rfl⟩
  ·rw [iteF hg297] at hx299
   obtain ⟨v302,hx303,hF304⟩:=qi hx299
   simp only [hg297,qf (g:=114),q8,qd,f214,zi,B0,reduceIte,a9]
   refine ju rfl (ql (a06 hv277 (a0e hS291) rfl (fun _=>rfl) (fun _=>rfl)) (ql (a06 hv34 (Sep.m12 hS291) rfl (fun _=>rfl) (fun _=>rfl)) zh))
     (qfj (fun b hb=>decide_eq_true hb) k v260.2.1 v17.2.1 v302 hx303) ?_
   simp only [hg297,qf (g:=114),q8,kh,qb,kz,qx,zn,qa,qo,B0,reduceIte,a9]
   have e305:=qh hF304
   exact hN296 _ _ ⟨(a0e (a0e (a0e (a0s (a0i (a0s (a0i (a0s (a0i (a0s (a0i (a0s ((a0s ((a0s ((a0s ((a0s
     (hS291))))))))))))))))))))),by rw [←e305]; simp only [B0,reduceIte,a9],f215,f216,f217,rfl,rfl⟩
 rintro fr306 h313 ⟨hS314,f307,f308,f309,f310,f311,f312⟩
 simp only [t9,a0c]
 simp only [f307,qd,B0,reduceIte,a9]
 refine jj 4 (fun fr' h'=>Sep h' (geL h.length) (c224++(c226++(c228++(c235++([])))))∧fr' 124 = .bool (v298 ||
   (!(v260.2.2 == v17.2.2)))∧fr' 10 = .ref [.int .i64 v61.1.Truth.Epoch,.int .i64 v61.1.Truth.Leader,v64,v68,
   v72] 0∧fr' 11=v76∧fr' 14 = .int .i64 v232.1) (fun Q315 hN316=>?_) ?_
 ·simp only [t8,a0d]
  simp only [qf (g:=120),B0,reduceIte,a9]
  refine zj (t:=v298) (fun hg317=>?_) (fun hg317=>?_)
  ·simp only [hg317,qf (g:=120),jr,qx,qb,zo,qa,qo,B0,reduceIte,a9]
   exact hN316 _ _ ⟨(a0e (a0e (a0e (a0e hS314)))),by rw [orT hg317]; simp only [B0,reduceIte,a9],f309,f310,f311⟩
  ·simp only [hg317,qf (g:=120),q8,f312,qd,f308,qkx,qb,qj4,qx,zn,qa,qo,B0,reduceIte,a9]
   exact hN316 _ _ ⟨(a0e (a0e (a0e (a0e hS314)))),by rw [orF hg317]; simp only [B0,reduceIte,a9],f309,f310,f311⟩
 rintro fr318 h323 ⟨hS324,f319,f320,f321,f322⟩
 simp only [t9,a0c]
 simp only [qa,f319,qy,B0,reduceIte,a9]
 refine qu (t:=(v298||(!(v260.2.2 == v17.2.2)))) (fun hc325=>?_) (fun hc325=>?_)
 ·rw [iteT hc325] at hF300
  simp only [qe,qc,qd,qa,qw,B0,reduceIte,a9]
  have he:=qh hF300
  subst he
  simp only [q9,B0,reduceIte,a9]
  exact rfl
 rw [iteF hc325] at hF300
 simp only [zf,zb7,qe,qc,qd,qa,zak,f320,qn,B0,reduceIte,a9]
 refine qg (v := .agg [.int .i64 v61.1.Truth.Epoch,.int .i64 v61.1.Truth.Leader,v64,v68,v72]) rfl ?_
 obtain ⟨v326,hx327,hF328⟩:=qi hF300
 simp only [qd,zi,B0,reduceIte,a9]
 refine ju rfl (ql (jo (ql qs (ql qs (ql (a06 hv225 hS324 rfl (fun _=>rfl) (fun _=>rfl)) (ql (a3t hv227 _
   (a0l hS324) rfl Node.RO) (ql (a06 hv229 (a0k hS324) rfl (fun _=>rfl) (fun _=>rfl)) zh)))))) (ql qs zh)) (qgd
   (fun b hb=>decide_eq_true hb) k (Cluster.mk (View.mk v61.1.Truth.Epoch v61.1.Truth.Leader v221.2.Truth.InStep) v221.2.Nodes v221.2.Acked) 1 v326 hx327) ?_
 simp only [qd,qa,zb0,qe,qc,qv,qb,k6,qy,B0,reduceIte,a9]
 refine qu (t:=(decide (v326<0))) (fun hc329=>?_) (fun hc329=>?_)
 ·rw [iteT hc329] at hF328
  simp only [qe,qc,qd,qa,qw,B0,reduceIte,a9]
  have he:=qh hF328
  subst he
  simp only [q9,B0,reduceIte,a9]
  exact rfl
 rw [iteF hc329] at hF328
 obtain ⟨v330,hx331,hF332⟩:=qi hF328
 simp only [zf,zbf,qe,qc,f321,qd,zi,B0,reduceIte,a9]
 refine ju rfl (ql (a06 hv236 (a0e hS324) rfl (fun _=>rfl) (fun _=>rfl)) (ql qs zh)) (qhs
   (fun b hb=>decide_eq_true hb) k v232.2 v326 v330 hx331) ?_
 simp only [qd,qa,zbq,qe,qc,qv,qb,k6,qy,B0,reduceIte,a9]
 refine qu (t:=(decide (v330<0))) (fun hc333=>?_) (fun hc333=>?_)
 ·rw [iteT hc333] at hF332
  simp only [qe,qc,qd,qa,qw,B0,reduceIte,a9]
  have he:=qh hF332
  subst he
  simp only [q9,B0,reduceIte,a9]
  exact rfl
 rw [iteF hc333] at hF332
 simp only [zf,zbo,qe,qc,qd,f322,qv,qb,ya,qa,qy,B0,reduceIte,a9]
 refine qu (t:=(decide (v330≠v232.1))) (fun hc334=>?_) (fun hc334=>?_)
 ·rw [iteT hc334] at hF332
  simp only [qe,qc,qd,qa,qw,B0,reduceIte,a9]
  have he:=qh hF332
  subst he
  simp only [q9,B0,reduceIte,a9]
  exact rfl
 rw [iteF hc334] at hF332
 simp only [zf,qe,qc,qd,qa,qw,B0,reduceIte,a9]
 have he:=qh hF332
 subst he
 simp only [q9,B0,reduceIte,a9]
 exact rfl
end Go.Proofs.Ytohofoampalhoaa.X
