/- The functions' code comes to what the plain functions say (2). -/
import Derived.Test.YtpkiieniipenjaaXCH1
set_option linter.unusedVariables false
set_option linter.unusedSimpArgs false
set_option maxRecDepth 100000
namespace Go.Proofs.Ytpkiieniipenjaa.X
open Go
open Nat (reduceEqDiff)
theorem qcj {W:Nat→Bool}{h:Heap} (hW:∀ b,
  (geL h.length) b→W b=true) (k:Nat) (v_0:Snap) (r:Bool) (hF:ww k v_0=some r) : Ret E W 45 [.agg [lst cI v_0.Amounts,lst Chan.cells v_0.Chans,
  lst Picture.cells v_0.Pictures,.int .i64 v_0.Sent,.int .i64 v_0.Total]] h (fun v h'=>cut h.length h' E.sz false 9 v=some (.bool r)):=by
 refine Ret.of (fn:=x45) rfl (Run.of ?_)
 unfold ww at hF
 have zf0:zh [.agg [lst cI v_0.Amounts,lst Chan.cells v_0.Chans,lst Picture.cells v_0.Pictures,.int .i64 v_0.Sent,.int .i64 v_0.Total]] 0 = .agg [lst cI v_0.Amounts,
   lst Chan.cells v_0.Chans,lst Picture.cells v_0.Pictures,.int .i64 v_0.Sent,.int .i64 v_0.Total]:=rfl
 generalize zh [.agg [lst cI v_0.Amounts,lst Chan.cells v_0.Chans,lst Picture.cells v_0.Pictures,.int .i64 v_0.Sent,.int .i64 v_0.Total]]=fr0 at zf0 ⊢
 have hS:Sep h (geL h.length) []:=Sep.nil h
 simp only [x45,qd,qc,kh,zf0,B0,reduceIte,reduceEqDiff]
 refine jt (cs:=[lst cI v_0.Amounts,lst Chan.cells v_0.Chans,lst Picture.cells v_0.Pictures,.int .i64 v_0.Sent,
   .int .i64 v_0.Total]) hS rfl rfl rfl (fun b1 h2 hS3=>?_)
 simp only [qe,qa,B0,reduceIte,reduceEqDiff]
 refine zw hS3 hW (by simp only [B0,reduceIte,reduceEqDiff]) (fun h5 hS6=>?_)
 simp only [zo,qvb,qd,qc,qt,qb,Nat.reduceAdd,Nat.zero_add,Nat.add_zero,qr,qp,B0,reduceIte,reduceEqDiff]
 refine qh (v:=lst cI v_0.Amounts) rfl ?_
 simp only [z6,qb,z5,qe,qa,qst,qd,qc,zd,B0,reduceIte,reduceEqDiff]
 refine j5 rfl (qj qq (qj qq (qj qq q9))) (ug (fun b hb=>decide_eq_true hb) (List.length v_0.Amounts:Int) 2 4 _ rfl) ?_
 simp only [jz,qb,kf,qe,B0,reduceIte,reduceEqDiff]
 refine j0 6 (fun fr' h'=>Sep h' (geL h.length) ([])∧fr' 27 = .bool ((!(zx (List.length v_0.Amounts:Int) 2 4))||(decide ((List.length v_0.Pictures:Int) ≠
   (List.length v_0.Amounts:Int))))∧fr' 1 = .ref [lst cI v_0.Amounts,lst Chan.cells v_0.Chans,lst Picture.cells v_0.Pictures,.int .i64 v_0.Sent,
   .int .i64 v_0.Total] 0∧fr' 3 = .int .i64 (List.length v_0.Amounts:Int)) (fun Q7 hN8=>?_) ?_
 ·simp only [List.take_succ_cons,List.take_zero]
  simp only [ql (g:=21),B0,reduceIte,reduceEqDiff]
  refine zn (t:=(!(zx (List.length v_0.Amounts:Int) 2 4))) (fun hg9=>?_) (fun hg9=>?_)
  ·simp only [hg9,ql (g:=21),jm,za,qb,zp,qa,qo,B0,reduceIte,reduceEqDiff]
   exact hN8 _ _ ⟨hS6,by rw [orT hg9]; simp only [B0,reduceIte,reduceEqDiff],rfl,rfl⟩
  ·simp only [hg9,ql (g:=21),qv,qt,qb,Nat.reduceAdd,Nat.zero_add,Nat.add_zero,qr,qp,B0,reduceIte,reduceEqDiff]
   refine qh (v:=lst Picture.cells v_0.Pictures) rfl ?_
   simp only [hg9,ql (g:=21),qv,z6,qb,z5,qe,zf,ws,za,zq,qa,qo,B0,reduceIte,reduceEqDiff]
   exact hN8 _ _ ⟨hS6,by rw [orF hg9]; simp only [B0,reduceIte,reduceEqDiff],rfl,rfl⟩
 rintro fr10 h14 ⟨hS15,f11,f12,f13⟩
 simp only [List.drop_succ_cons,List.drop_zero]
 simp only [f11,qe,B0,reduceIte,reduceEqDiff]
 refine j0 5 (fun fr' h'=>Sep h' (geL h.length) ([])∧fr' 33 = .bool (((!(zx (List.length v_0.Amounts:Int) 2 4))||(decide ((List.length v_0.Pictures:Int) ≠
   (List.length v_0.Amounts:Int))))||(!(zx v_0.Sent 0 1000)))∧fr' 1 = .ref [lst cI v_0.Amounts,lst Chan.cells v_0.Chans,lst Picture.cells v_0.Pictures,
   .int .i64 v_0.Sent,.int .i64 v_0.Total] 0∧fr' 3 = .int .i64 (List.length v_0.Amounts:Int)) (fun Q16 hN17=>?_) ?_
 ·simp only [List.take_succ_cons,List.take_zero]
  simp only [ql (g:=28),B0,reduceIte,reduceEqDiff]
  refine zn (t:=((!(zx (List.length v_0.Amounts:Int) 2 4))||(decide ((List.length v_0.Pictures:Int)≠(List.length v_0.Amounts:Int))))) (fun hg18=>?_)
    (fun hg18=>?_)
  ·simp only [hg18,ql (g:=28),jm,za,qb,zp,qa,qo,B0,reduceIte,reduceEqDiff]
   exact hN17 _ _ ⟨hS15,by rw [orT hg18]; simp only [B0,reduceIte,reduceEqDiff],f12,f13⟩
  ·simp only [hg18,ql (g:=28),qv,f12,qt,qb,Nat.reduceAdd,Nat.zero_add,Nat.add_zero,qr,qp,B0,reduceIte,reduceEqDiff]
   refine qh (v := .int .i64 v_0.Sent) rfl ?_
   simp only [hg18,ql (g:=28),qv,zd,B0,reduceIte,reduceEqDiff]
   refine j5 rfl (qj qq (qj qq (qj qq q9))) (ug (fun b hb=>decide_eq_true hb) v_0.Sent 0 1000 _ rfl) ?_
   simp only [hg18,ql (g:=28),qv,jz,qb,kf,za,zq,qa,qo,B0,reduceIte,reduceEqDiff]
   exact hN17 _ _ ⟨hS15,by rw [orF hg18]; simp only [B0,reduceIte,reduceEqDiff],f12,f13⟩
 rintro fr19 h23 ⟨hS24,f20,f21,f22⟩
 simp only [List.drop_succ_cons,List.drop_zero]
 simp only [f20,qe,B0,reduceIte,reduceEqDiff]
 refine j0 5 (fun fr' h'=>Sep h' (geL h.length) ([])∧fr' 39 = .bool ((((!(zx (List.length v_0.Amounts:Int) 2 4))||(decide ((List.length v_0.Pictures:Int) ≠
   (List.length v_0.Amounts:Int))))||(!(zx v_0.Sent 0 1000)))||(!(zx v_0.Total 0 1000)))∧fr' 1 = .ref [lst cI v_0.Amounts,lst Chan.cells v_0.Chans,
   lst Picture.cells v_0.Pictures,.int .i64 v_0.Sent,.int .i64 v_0.Total] 0∧fr' 3 = .int .i64 (List.length v_0.Amounts:Int)) (fun Q25 hN26=>?_) ?_
 ·simp only [List.take_succ_cons,List.take_zero]
  simp only [ql (g:=34),B0,reduceIte,reduceEqDiff]
  refine zn (t:=(((!(zx (List.length v_0.Amounts:Int) 2 4))||(decide ((List.length v_0.Pictures:Int)≠(List.length v_0.Amounts:Int)))) ||
    (!(zx v_0.Sent 0 1000)))) (fun hg27=>?_) (fun hg27=>?_)
  ·simp only [hg27,ql (g:=34),jm,za,qb,zp,qa,qo,B0,reduceIte,reduceEqDiff]
   exact hN26 _ _ ⟨hS24,by rw [orT hg27]; simp only [B0,reduceIte,reduceEqDiff],f21,f22⟩
  ·simp only [hg27,ql (g:=34),qv,f21,qt,qb,Nat.reduceAdd,Nat.zero_add,Nat.add_zero,qr,qp,B0,reduceIte,reduceEqDiff]
   refine qh (v := .int .i64 v_0.Total) rfl ?_
   simp only [hg27,ql (g:=34),qv,zd,B0,reduceIte,reduceEqDiff]
   refine j5 rfl (qj qq (qj qq (qj qq q9))) (ug (fun b hb=>decide_eq_true hb) v_0.Total 0 1000 _ rfl) ?_
   simp only [hg27,ql (g:=34),qv,jz,qb,kf,za,zq,qa,qo,B0,reduceIte,reduceEqDiff]
   exact hN26 _ _ ⟨hS24,by rw [orF hg27]; simp only [B0,reduceIte,reduceEqDiff],f21,f22⟩
 rintro fr28 h32 ⟨hS33,f29,f30,f31⟩
 simp only [List.drop_succ_cons,List.drop_zero]
 simp only [f29,qe,B0,reduceIte,reduceEqDiff]
 refine j0 9 (fun fr' h'=>Sep h' (geL h.length) ([])∧fr' 49 = .bool (((((!(zx (List.length v_0.Amounts:Int) 2 4))||(decide ((List.length v_0.Pictures:Int) ≠
   (List.length v_0.Amounts:Int))))||(!(zx v_0.Sent 0 1000)))||(!(zx v_0.Total 0 1000)))||(decide ((List.length v_0.Chans:Int)≠(IntKind.wrap .i64
   ((List.length v_0.Amounts:Int)*(IntKind.wrap .i64 ((List.length v_0.Amounts:Int) - 1)))))))∧fr' 1 = .ref [lst cI v_0.Amounts,lst Chan.cells v_0.Chans,
   lst Picture.cells v_0.Pictures,.int .i64 v_0.Sent,.int .i64 v_0.Total] 0∧fr' 3 = .int .i64 (List.length v_0.Amounts:Int)) (fun Q34 hN35=>?_) ?_
 ·simp only [List.take_succ_cons,List.take_zero]
  simp only [ql (g:=40),B0,reduceIte,reduceEqDiff]
  refine zn (t:=((((!(zx (List.length v_0.Amounts:Int) 2 4))||(decide ((List.length v_0.Pictures:Int)≠(List.length v_0.Amounts:Int)))) ||
    (!(zx v_0.Sent 0 1000)))||(!(zx v_0.Total 0 1000)))) (fun hg36=>?_) (fun hg36=>?_)
  ·simp only [hg36,ql (g:=40),jm,za,qb,zp,qa,qo,B0,reduceIte,reduceEqDiff]
   exact hN35 _ _ ⟨hS33,by rw [orT hg36]; simp only [B0,reduceIte,reduceEqDiff],f30,f31⟩
  ·simp only [hg36,ql (g:=40),qv,f30,qt,qb,Nat.reduceAdd,Nat.zero_add,Nat.add_zero,qr,qp,B0,reduceIte,reduceEqDiff]
   refine qh (v:=lst Chan.cells v_0.Chans) rfl ?_
   simp only [hg36,ql (g:=40),qv,z6,qb,z5,f31,qe,zf,qi4,qln,ws,za,zq,qa,qo,B0,
     reduceIte,reduceEqDiff]
   exact hN35 _ _ ⟨hS33,by rw [orF hg36]; simp only [B0,reduceIte,reduceEqDiff],f30,f31⟩
 rintro fr37 h41 ⟨hS42,f38,f39,f40⟩
 simp only [List.drop_succ_cons,List.drop_zero]
 simp only [qa,f38,zc,B0,reduceIte,reduceEqDiff]
 refine zb (t:=(((((!(zx (List.length v_0.Amounts:Int) 2 4))||(decide ((List.length v_0.Pictures:Int)≠(List.length v_0.Amounts:Int)))) ||
   (!(zx v_0.Sent 0 1000)))||(!(zx v_0.Total 0 1000)))||(decide ((List.length v_0.Chans:Int)≠(IntKind.wrap .i64 ((List.length v_0.Amounts:Int) *
   (IntKind.wrap .i64 ((List.length v_0.Amounts:Int) - 1)))))))) (fun hc43=>?_) (fun hc43=>?_)
 ·rw [iteT hc43] at hF
  simp only [qd,qc,qe,qa,qz,B0,reduceIte,reduceEqDiff]
  have he:=qk hF
  subst he
  simp only [zl,B0,reduceIte,reduceEqDiff]
  exact rfl
 rw [iteF hc43] at hF
 simp only [zg,qtz,qd,qc,qe,qa,qso,f39,qt,qb,Nat.reduceAdd,Nat.zero_add,Nat.add_zero,qr,qp,B0,reduceIte,
   reduceEqDiff]
 refine qh (v:=lst cI v_0.Amounts) rfl ?_
 simp only [z6,qb,z5,qe,qa,B0,reduceIte,reduceEqDiff]
 obtain ⟨oc48,hX50,hk51⟩:=jp hF
 simp only [q0h]
 refine ko (σ:=Int) v_0.Amounts (fun i46 x47 s100=>qad k v_0 i46 x47 s100) (fun s fr' h'=>fr' 1 = .ref [lst cI v_0.Amounts,lst Chan.cells v_0.Chans,
   lst Picture.cells v_0.Pictures,.int .i64 v_0.Sent,
   .int .i64 v_0.Total] 0∧fr' 3 = .int .i64 (List.length v_0.Amounts:Int)∧fr' 4 = .int .i64 s∧fr' 51=lst cI v_0.Amounts∧Sep h' (geL h.length) ([])) hX50 ⟨f39,f40,
   rfl,rfl,hS42⟩ (by simp only [B0,reduceIte,reduceEqDiff]) (by simp only [B0,reduceIte,
   reduceEqDiff]) (fun _ _ _ h=>h) rfl rfl (fun _ _ _ _ h=>h) (fun _ _ _ _ h=>h) (fun _ _ _ _ h=>h) (by decide) ?_ ?_
 ·rintro i46 x47 s45 fr60 h61 hx67 ⟨f63,f64,f65,f66,hS62⟩ f68 f69 oc49 hF52 hr53 Q54 hN55 hB59 hK56 hR57 hE58
  unfold qad at hF52
  simp only [q5k,qd,qc,f68,qe,f66,jg,B0,reduceIte,reduceEqDiff]
  refine qh (v := .ref (cI x47) 0) (kp hx67 rfl) ?_
  simp only [qp,B0,reduceIte,reduceEqDiff]
  refine qh (v := .int .i64 x47) rfl ?_
  simp only [qe,qa,qz8,qd,qc,zd,B0,reduceIte,reduceEqDiff]
  refine j5 rfl (qj qq (qj qq (qj qq q9))) (ug (fun b hb=>decide_eq_true hb) x47 0 1000 _ rfl) ?_
  simp only [jz,qb,kf,qe,B0,reduceIte,reduceEqDiff]
  obtain ⟨v73,hx74,hF75⟩:=qg hF52
  refine j0 10 (fun fr' h'=>Sep h' (geL h.length) ([])∧fr' 71 = .bool v73∧fr' 1 = .ref [lst cI v_0.Amounts,lst Chan.cells v_0.Chans,lst Picture.cells v_0.Pictures,
    .int .i64 v_0.Sent,.int .i64 v_0.Total] 0∧fr' 3 = .int .i64
    (List.length v_0.Amounts:Int)∧fr' 4 = .int .i64 s45∧fr' 6 = .int .i64 x47∧fr' 51=lst cI v_0.Amounts∧fr' 52 = .int .i64
    (List.length v_0.Amounts:Int)∧fr' 53 = .int .i64 (i46:Int)) (fun Q70 hN71=>?_) ?_
  ·simp only [List.take_succ_cons,List.take_zero]
   simp only [ql (g:=61),B0,reduceIte,reduceEqDiff]
   refine zn (t:=(!(zx x47 0 1000))) (fun hg72=>?_) (fun hg72=>?_)
   ·rw [iteT hg72] at hx74
    simp only [hg72,ql (g:=61),jm,za,qb,zp,qa,qo,B0,reduceIte,reduceEqDiff]
    have e76:=qk hx74
    exact hN71 _ _ ⟨hS62,by rw [←e76]; simp only [B0,reduceIte,reduceEqDiff],f63,f64,f65,rfl,f66,f69,f68⟩
   ·rw [iteF hg72] at hx74
    simp only [hg72,ql (g:=61),qv,f63,qt,qb,Nat.reduceAdd,Nat.zero_add,Nat.add_zero,qr,qp,B0,reduceIte,reduceEqDiff]
    refine qh (v:=lst Picture.cells v_0.Pictures) rfl ?_
    obtain ⟨x77,hx78,hF79⟩:=qg hx74
    simp only [hg72,ql (g:=61),qv,qe,jg,B0,reduceIte,reduceEqDiff]
    refine qh (v := .ref (Picture.cells x77) 0) (k5 hx78 rfl) ?_
    simp only [hg72,ql (g:=61),qv,qp,B0,reduceIte,reduceEqDiff]
    refine qh (v := .agg [.bool x77.Taken,.int .i64 x77.Amount,lst cI x77.In,lst cB x77.Closed]) rfl ?_
    obtain ⟨v80,hx81,hF82⟩:=qg hF79
    simp only [hg72,ql (g:=61),qv,qe,f64,zd,B0,reduceIte,reduceEqDiff]
    refine j5 rfl (qj (ji (qj qea (qj qq (qj zm (qj zm q9))))) (qj qq (qj qq q9))) (qkg
      (fun b hb=>decide_eq_true hb) k x77 (i46:Int) (List.length v_0.Amounts:Int) v80 hx81) ?_
    simp only [hg72,ql (g:=61),qv,jz,qb,kf,za,zq,qa,qo,B0,reduceIte,reduceEqDiff]
    have e83:=qk hF82
    exact hN71 _ _ ⟨hS62,by rw [←e83]; simp only [B0,reduceIte,reduceEqDiff],f63,f64,f65,rfl,f66,f69,f68⟩
  rintro fr84 h93 ⟨hS94,f85,f86,f87,f88,f89,f90,f91,f92⟩
  simp only [List.drop_succ_cons,List.drop_zero]
  simp only [qa,f85,zc,B0,reduceIte,reduceEqDiff]
  refine zb (t:=v73) (fun hc95=>?_) (fun hc95=>?_)
  ·rw [iteT hc95] at hF75
   simp only [qd,qc,qe,qa,qz,B0,reduceIte,reduceEqDiff]
   have e96:=qk hF75
   subst e96
   have ho97:=hr53 _ rfl
   have hk98:=hk51
   rw [ho97] at hk98
   dsimp only [jnO] at hk98
   apply hR57
   have he:=qk hk98
   subst he
   simp only [zl,B0,reduceIte,reduceEqDiff]
   exact rfl
  rw [iteF hc95] at hF75
  simp only [zg,q30,qc,f88,qe,f89,zf,qb,yz,qa,qo,B0,reduceIte,reduceEqDiff]
  have e99:=qk hF75
  exact hN55 _ _ _ e99.symm ⟨f86,f87,rfl,f90,hS94⟩ (f92) (f91)
 rintro s101 fr102 h103 rfl ⟨f105,f106,f107,f108,hS104⟩
 dsimp only [jnO] at hk51
 unfold qbs at hk51
 obtain ⟨v109,hx110,hF111⟩:=qg hk51
 simp only [qu7,qd,qc,f106,qe,zd,B0,reduceIte,reduceEqDiff]
 refine ut rfl hS104 (qj qq (qj qq q9)) (qh7 (fun b hb=>decide_eq_true hb) (List.length v_0.Amounts:Int) 0 v109 hx110) ?_
 rintro _ h124 ⟨v112,c113,v116,c117,v120,c121,rfl,hv114,hv118,hv122,hS125⟩
 refine ⟨_,qci (qi (SlF.free1 hv114) (qi (SlN.free1 hv118) (qi (SlN.free1 hv122) (qi rfl (qi rfl zk))))),hS125,
   (jc (SlF.pf hv114 (fun _=>rfl)) (jc (SlN.pf hv118 Chan.RO) (jc (SlN.pf hv122 Picture.RO) wt))),fun h126 hS127=>?_⟩
 have hS128:Sep h126 (geL h.length) (c113++(c117++(c121++([])))):=by simpa only [List.append_assoc,List.nil_append] using hS127
 simp only [jb,B0,reduceIte,reduceEqDiff]
 refine zv hS128 (fun b129 h130 hS131=>?_)
 simp only [zj,B0,reduceIte,reduceEqDiff]
 refine qx (us:=[v112,v116,v120,.int .i64 v109.Sent,.int .i64 v109.Total]) rfl (cs':=[v112,v116,v120,.int .i64 v109.Sent,
   .int .i64 v109.Total]) hS131 hW rfl (qi (SlF.one hv114) (qi (SlN.one hv118) (qi (SlN.one hv122) (qi rfl (qi rfl zk))))) (Nat.le_of_ble_eq_true rfl) rfl
   (fun h133 hS134=>?_)
 simp only [qa,B0,reduceIte,reduceEqDiff]
 refine zw hS134 hW (by simp only [B0,reduceIte,reduceEqDiff]) (fun h135 hS136=>?_)
 simp only [zo,qs1,qd,qc,f105,qt,qb,Nat.reduceAdd,Nat.zero_add,Nat.add_zero,qr,qp,B0,reduceIte,reduceEqDiff]
 refine qh (v:=lst Chan.cells v_0.Chans) rfl ?_
 simp only [z6,qb,z5,qe,qa,B0,reduceIte,reduceEqDiff]
 obtain ⟨oc145,hX147,hk148⟩:=jp hF111
 simp only [qus]
 refine ko (σ:=(List Chan)) v_0.Chans (fun i143 x144 s379=>qag v_0 i143 x144 s379) (fun s fr' h'=>∃ c141,fr' 1 = .ref [lst cI v_0.Amounts,
   lst Chan.cells v_0.Chans,lst Picture.cells v_0.Pictures,.int .i64 v_0.Sent,.int .i64 v_0.Total] 0∧fr' 4 = .int .i64 s101∧fr' 7 = .ref [v112,v116,v120,
   .int .i64 v109.Sent,.int .i64 v109.Total] 0∧fr' 79=lst Chan.cells v_0.Chans∧SlN Chan.R 3 74 v116 s c141∧Sep h' (geL h.length) (c113++(c141++(c121 ++
   ([]))))) hX147 ⟨c117,f105,f107,rfl,rfl,hv118,(Sep.m2 (Sep.m2 (Sep.m2 hS136)))⟩ (by simp only [B0,reduceIte,reduceEqDiff]) (by simp only [B0,reduceIte,
   reduceEqDiff]) (fun _ _ _ h=>h) rfl rfl (fun _ _ _ _ h=>h) (fun _ _ _ _ h=>h) (fun _ _ _ _ h=>h) (by decide) ?_ ?_
 ·rintro i143 x144 s140 fr157 h158 hx164 ⟨c141,f160,f161,f162,f163,hv142,hS159⟩ f165 f166 oc146 hF149 hr150 Q151 hN152 hB156 hK153 hR154 hE155
  unfold qag at hF149
  simp only [qt2,qd,qc,f165,qe,f163,jg,B0,reduceIte,reduceEqDiff]
  refine qh (v := .ref (Chan.cells x144) 0) (kp hx164 rfl) ?_
  simp only [qp,B0,reduceIte,reduceEqDiff]
  refine qh (v := .agg [.int .i64 x144.From,.int .i64 x144.To,lst cI x144.Way]) rfl ?_
  simp only [jb,B0,reduceIte,reduceEqDiff]
  refine zv hS159 (fun b167 h168 hS169=>?_)
  simp only [qe,zj,B0,reduceIte,reduceEqDiff]
  refine qx (us:=[.int .i64 x144.From,.int .i64 x144.To,lst cI x144.Way]) rfl (cs':=[.int .i64 x144.From,.int .i64 x144.To,
    lst cI x144.Way]) hS169 hW rfl rfl (Nat.le_of_ble_eq_true rfl) rfl (fun h171 hS172=>?_)
  simp only [qa,B0,reduceIte,reduceEqDiff]
  refine zw hS172 hW (by simp only [B0,reduceIte,reduceEqDiff]) (fun h173 hS174=>?_)
  simp only [zo,qsm,qd,jd,zi,qf,Nat.reduceAdd,Nat.zero_add,Nat.add_zero,qr,ze,B0,reduceIte,reduceEqDiff]
  refine qm (v := .int .i64 x144.From) rfl ?_
  simp only [f162,zi,qf,Nat.reduceAdd,Nat.zero_add,Nat.add_zero,qr,ze,B0,reduceIte,reduceEqDiff]
  refine qm (v:=v116) rfl ?_
  obtain ⟨x175,hx176,hF177⟩:=qg hF149
  simp only [zr,qf,jo,B0,reduceIte,reduceEqDiff]
  obtain ⟨b178,hb179⟩:=SlN.isrow hv142 (jq hx176)
  refine qm (SlN.ia hv142 hb179 hx176) ?_
  obtain ⟨c180,cs181,os182,hv183,hR184,hS185⟩:=SlG.opn (SlN.toG hv142 hb179 Chan.RO.len) hx176 z7 Chan.RO.len (Sep.m1 hS174)
  obtain ⟨v187,c188,hv189,rfl,rfl⟩:=hR184
  have hS186:=Sep.no1 hS185
  simp only [zi,qf,Nat.reduceAdd,Nat.zero_add,Nat.add_zero,qu,ze,B0,reduceIte,reduceEqDiff]
  refine qm (v := .int .i64 x175.From) ((SlG.ld (o:=0) hv183 rfl hx176 hS186 (Nat.le_of_ble_eq_true rfl)).trans rfl) ?_
  simp only [kn,qf,ws,zr,B0,reduceIte,reduceEqDiff]
  refine wo 10 (fun fr' h'=>Sep h' (geL h.length) (c113++(c180++(c121++(c188++([])))))∧fr' 105 = .bool ((decide (x144.From≠x175.From))||(decide
    (x144.To≠x175.To)))∧fr' 1 = .ref [lst cI v_0.Amounts,lst Chan.cells v_0.Chans,lst Picture.cells v_0.Pictures,.int .i64 v_0.Sent,
    .int .i64 v_0.Total] 0∧fr' 4 = .int .i64 s101∧fr' 7 = .ref [v112,v116,v120,.int .i64 v109.Sent,.int .i64 v109.Total] 0∧fr' 9 = .ref [.int .i64 x144.From,
    .int .i64 x144.To,lst cI x144.Way] 0∧fr' 79=lst Chan.cells v_0.Chans∧fr' 80 = .int .i64 (List.length v_0.Chans:Int)∧fr' 81 = .int .i64 (i143:Int)) rfl
    (fun Q191 hN192=>?_) ?_
  ·simp only [List.take_succ_cons,List.take_zero]
   simp only [qn (g:=95),B0,reduceIte,reduceEqDiff]
   refine jf (t:=(decide (x144.From≠x175.From))) (fun hg193=>?_) (fun hg193=>?_)
   ·simp only [hg193,qn (g:=95),kr,z8,qf,zp,qs,qo,B0,reduceIte,reduceEqDiff]
    exact hN192 _ _ ⟨(Sep.m3 (Sep.m2 (Sep.m3 (Sep.m1 hS186)))),by rw [orT hg193]; simp only [B0,reduceIte,reduceEqDiff],f160,f161,f162,rfl,f163,f166,f165⟩
   ·simp only [hg193,qn (g:=95),q8,zi,qf,Nat.reduceAdd,Nat.zero_add,Nat.add_zero,qr,ze,B0,reduceIte,reduceEqDiff]
    refine qm (v := .int .i64 x144.To) rfl ?_
    simp only [hg193,qn (g:=95),q8,f162,zi,qf,Nat.reduceAdd,Nat.zero_add,Nat.add_zero,qr,ze,B0,reduceIte,reduceEqDiff]
    refine qm (v:=v116) rfl ?_
    simp only [hg193,qn (g:=95),q8,zr,qf,jo,B0,reduceIte,reduceEqDiff]
    refine qm (SlG.ia hv183 hx176) ?_
    simp only [hg193,qn (g:=95),q8,zi,qf,Nat.reduceAdd,Nat.zero_add,Nat.add_zero,qu,ze,B0,reduceIte,reduceEqDiff]
    refine qm (v := .int .i64 x175.To) ((SlG.ld (o:=1) hv183 rfl hx176 hS186 (Nat.le_of_ble_eq_true rfl)).trans rfl) ?_
    simp only [hg193,qn (g:=95),q8,kn,qf,ws,z8,zq,qs,qo,B0,reduceIte,reduceEqDiff]
    exact hN192 _ _ ⟨(Sep.m3 (Sep.m2 (Sep.m3 (Sep.m1 hS186)))),by rw [orF hg193]; simp only [B0,reduceIte,reduceEqDiff],f160,f161,f162,rfl,f163,f166,f165⟩
  rintro fr194 h203 ⟨hS204,f195,f196,f197,f198,f199,f200,f201,f202⟩
  simp only [List.drop_succ_cons,List.drop_zero]
  simp only [f195,zr,qf,B0,reduceIte,reduceEqDiff]
  refine wo 5 (fun fr' h'=>Sep h' (geL h.length) (c113++(c180++(c121++(c188++([])))))∧fr' 111 = .bool (((decide (x144.From≠x175.From))||(decide
    (x144.To≠x175.To)))||(decide ((8:Int)<(List.length x144.Way:Int))))∧fr' 1 = .ref [lst cI v_0.Amounts,lst Chan.cells v_0.Chans,lst Picture.cells v_0.Pictures,
    .int .i64 v_0.Sent,.int .i64 v_0.Total] 0∧fr' 4 = .int .i64 s101∧fr' 7 = .ref [v112,v116,v120,.int .i64 v109.Sent,
    .int .i64 v109.Total] 0∧fr' 9 = .ref [.int .i64 x144.From,.int .i64 x144.To,
    lst cI x144.Way] 0∧fr' 79=lst Chan.cells v_0.Chans∧fr' 80 = .int .i64 (List.length v_0.Chans:Int)∧fr' 81 = .int .i64 (i143:Int)) rfl (fun Q205 hN206=>?_) ?_
  ·simp only [List.take_succ_cons,List.take_zero]
   simp only [qn (g:=106),B0,reduceIte,reduceEqDiff]
   refine jf (t:=((decide (x144.From≠x175.From))||(decide (x144.To≠x175.To)))) (fun hg207=>?_) (fun hg207=>?_)
   ·simp only [hg207,qn (g:=106),kr,z8,qf,zp,qs,qo,B0,reduceIte,reduceEqDiff]
    exact hN206 _ _ ⟨(Sep.m3 (Sep.m3 (Sep.m3 (Sep.m3 hS204)))),by rw [orT hg207]; simp only [B0,reduceIte,reduceEqDiff],f196,f197,f198,f199,f200,f201,f202⟩
   ·simp only [hg207,qn (g:=106),q8,f199,zi,qf,Nat.reduceAdd,Nat.zero_add,Nat.add_zero,qr,ze,B0,reduceIte,reduceEqDiff]
    refine qm (v:=lst cI x144.Way) rfl ?_
    simp only [hg207,qn (g:=106),q8,qch,qf,z5,kn,qe7,z8,zq,qs,qo,B0,reduceIte,reduceEqDiff]
    exact hN206 _ _ ⟨(Sep.m3 (Sep.m3 (Sep.m3 (Sep.m3 hS204)))),by rw [orF hg207]; simp only [B0,reduceIte,reduceEqDiff],f196,f197,f198,f199,f200,f201,f202⟩
  rintro fr208 h217 ⟨hS218,f209,f210,f211,f212,f213,f214,f215,f216⟩
  simp only [List.drop_succ_cons,List.drop_zero]
  simp only [qs,f209,zc,B0,reduceIte,reduceEqDiff]
  refine zb (t:=(((decide (x144.From≠x175.From))||(decide (x144.To≠x175.To)))||(decide ((8:Int)<(List.length x144.Way:Int))))) (fun hc219=>?_)
    (fun hc219=>?_)
  ·rw [iteT hc219] at hF177
   simp only [qd,qc,qe,qa,qz,B0,reduceIte,reduceEqDiff]
   have e220:=qk hF177
   subst e220
   have ho221:=hr150 _ rfl
   have hk222:=hk148
   rw [ho221] at hk222
   dsimp only [jnO] at hk222
   apply hR154
   have he:=qk hk222
   subst he
   simp only [zl,B0,reduceIte,reduceEqDiff]
   exact rfl
  rw [iteF hc219] at hF177
  simp only [zg,qs5,qd,qc,qe,qa,qqt,f213,qt,qb,Nat.reduceAdd,Nat.zero_add,Nat.add_zero,qr,qp,B0,reduceIte,
    reduceEqDiff]
  refine qh (v:=lst cI x144.Way) rfl ?_
  simp only [z6,qb,z5,qe,qa,B0,reduceIte,reduceEqDiff]
  obtain ⟨c223,hv224,hS225⟩:=SlG.cls0 (c:=c180) (os:=c188) hv183 rfl hx176 z7 (Chan.RI (x:=x175) hv189) (Sep.m2 (Sep.m3 hS218))
  have hv226:=SlG.toN hv224
  obtain ⟨oc231,hX233,hk234⟩:=jp hF177
  simp only [qtd]
  refine ko (σ:=Int) x144.Way (fun i229 x230 s268=>yv i229 x230 s268) (fun s fr' h'=>fr' 1 = .ref [lst cI v_0.Amounts,lst Chan.cells v_0.Chans,
    lst Picture.cells v_0.Pictures,.int .i64 v_0.Sent,.int .i64 v_0.Total] 0∧fr' 4 = .int .i64 s101∧fr' 7 = .ref [v112,v116,v120,.int .i64 v109.Sent,
    .int .i64 v109.Total] 0∧fr' 9 = .ref [.int .i64 x144.From,.int .i64 x144.To,
    lst cI x144.Way] 0∧fr' 10 = .int .i64 s∧fr' 79=lst Chan.cells v_0.Chans∧fr' 80 = .int .i64 (List.length v_0.Chans:Int)∧fr' 81 = .int .i64
    (i143:Int)∧fr' 113=lst cI x144.Way∧Sep h' (geL h.length) (c113++(c223++(c121++([]))))) hX233 ⟨f210,f211,f212,f213,rfl,f214,f215,f216,rfl,
    (Sep.m2 (Sep.m1 (Sep.m2 hS225)))⟩ (by simp only [B0,reduceIte,reduceEqDiff]) (by simp only [B0,reduceIte,
    reduceEqDiff]) (fun _ _ _ h=>h) rfl rfl (fun _ _ _ _ h=>h) (fun _ _ _ _ h=>h) (fun _ _ _ _ h=>h) (by decide) ?_ ?_
  ·rintro i229 x230 s228 fr243 h244 hx255 ⟨f246,f247,f248,f249,f250,f251,f252,f253,f254,hS245⟩ f256 f257 oc232 hF235 hr236 Q237 hN238 hB242 hK239 hR240 hE241
   unfold yv at hF235
   simp only [qyh,qd,qc,f254,f256,jg,B0,reduceIte,reduceEqDiff]
   refine qh (v := .ref (cI x230) 0) (kp hx255 rfl) ?_
   simp only [qp,B0,reduceIte,reduceEqDiff]
   refine qh (v := .int .i64 x230) rfl ?_
   simp only [qe,qa,q4l,qd,qc,zd,B0,reduceIte,reduceEqDiff]
   refine j5 rfl (qj qq (qj qq (qj qq q9))) (ug (fun b hb=>decide_eq_true hb) x230 0 1000 _ rfl) ?_
   simp only [jz,qb,kf,qa,zc,B0,reduceIte,reduceEqDiff]
   refine zb (t:=(!(zx x230 0 1000))) (fun hc258=>?_) (fun hc258=>?_)
   ·rw [iteT hc258] at hF235
    simp only [qd,qc,qe,qa,qz,B0,reduceIte,reduceEqDiff]
    have e259:=qk hF235
    subst e259
    have ho260:=hr236 _ rfl
    have hk261:=hk234
    rw [ho260] at hk261
    dsimp only [jnO] at hk261
    apply hR240
    have e262:=qk hk261
    subst e262
    have ho263:=hr150 _ rfl
    have hk264:=hk148
    rw [ho263] at hk264
    dsimp only [jnO] at hk264
    apply hR154
    have he:=qk hk264
    subst he
    simp only [zl,B0,reduceIte,reduceEqDiff]
    exact rfl
   rw [iteF hc258] at hF235
   simp only [zg,q4z,qd,qc,qe,zf,qb,wi,qa,qyu,zc,B0,reduceIte,reduceEqDiff]
   refine zb (t:=(decide (x230=0))) (fun hc265=>?_) (fun hc265=>?_)
   ·rw [iteT hc265] at hF235
    simp only [qc,f250,qe,zf,qb,yz,qa,qo,B0,reduceIte,reduceEqDiff]
    have e266:=qk hF235
    exact hN238 _ _ _ e266.symm ⟨f246,f247,f248,f249,rfl,f251,f252,f253,f254,(Sep.m2 (Sep.m2 (Sep.m2 hS245)))⟩ (f256) (f257)
   rw [iteF hc265] at hF235
   simp only [zg,qo,B0,reduceIte,reduceEqDiff]
   have e267:=qk hF235
   exact hN238 _ _ _ e267.symm ⟨f246,f247,f248,f249,f250,f251,f252,f253,f254,(Sep.m2 (Sep.m2 (Sep.m2 hS245)))⟩ (f256) (f257)
  rintro s269 fr270 h271 rfl ⟨f273,f274,f275,f276,f277,f278,f279,f280,f281,hS272⟩
  dsimp only [jnO] at hk234
  unfold qby at hk234
  simp only [qsc,qd,qc,qe,qa,qq4,jd,f273,zi,qf,Nat.reduceAdd,Nat.zero_add,Nat.add_zero,qr,ze,B0,reduceIte,
    reduceEqDiff]
  refine qm (v:=lst Picture.cells v_0.Pictures) rfl ?_
  simp only [f276,zi,qf,Nat.reduceAdd,Nat.zero_add,Nat.add_zero,qr,ze,B0,reduceIte,reduceEqDiff]
  refine qm (v := .int .i64 x144.To) rfl ?_
  obtain ⟨x282,hx283,hF284⟩:=qg hk234
  simp only [jo,B0,reduceIte,reduceEqDiff]
  refine qm (v := .ref (Picture.cells x282) 0) (k5 hx283 rfl) ?_
  simp only [zi,qf,Nat.reduceAdd,Nat.zero_add,Nat.add_zero,qr,ze,B0,reduceIte,reduceEqDiff]
  refine qm (v:=lst cB x282.Closed) rfl ?_
  simp only [f276,zi,qf,Nat.reduceAdd,Nat.zero_add,Nat.add_zero,qr,ze,B0,reduceIte,reduceEqDiff]
  refine qm (v := .int .i64 x144.From) rfl ?_
  obtain ⟨x285,hx286,hF287⟩:=qg hF284
  simp only [jo,B0,reduceIte,reduceEqDiff]
  refine qm (v := .ref (cB x285) 0) (k5 hx286 rfl) ?_
  simp only [ze,B0,reduceIte,reduceEqDiff]
  refine qm (v := .bool x285) rfl ?_
  simp only [zr,qf,qs,qrz,qd,qc,f273,qt,qb,Nat.reduceAdd,Nat.zero_add,Nat.add_zero,qr,qp,B0,reduceIte,
    reduceEqDiff]
  refine qh (v:=lst Picture.cells v_0.Pictures) rfl ?_
  simp only [f276,qt,qb,Nat.reduceAdd,Nat.zero_add,Nat.add_zero,qr,qp,B0,reduceIte,reduceEqDiff]
  refine qh (v := .int .i64 x144.From) rfl ?_
  obtain ⟨x288,hx289,hF290⟩:=qg hF287
  simp only [jg,B0,reduceIte,reduceEqDiff]
  refine qh (v := .ref (Picture.cells x288) 0) (k5 hx289 rfl) ?_
  simp only [qt,qb,Nat.reduceAdd,Nat.zero_add,Nat.add_zero,qr,qp,B0,reduceIte,reduceEqDiff]
  refine qh (v := .bool x288.Taken) rfl ?_
  simp only [qe,B0,reduceIte,reduceEqDiff]
  refine j0 3 (fun fr' h'=>Sep h' (geL h.length) (c113++(c223++(c121++([]))))∧fr' 148 = .bool (x288.Taken&&(!x285))∧fr' 1 = .ref [lst cI v_0.Amounts,
    lst Chan.cells v_0.Chans,lst Picture.cells v_0.Pictures,.int .i64 v_0.Sent,.int .i64 v_0.Total] 0∧fr' 4 = .int .i64 s101∧fr' 7 = .ref [v112,v116,v120,
    .int .i64 v109.Sent,.int .i64 v109.Total] 0∧fr' 9 = .ref [.int .i64 x144.From,.int .i64 x144.To,
    lst cI x144.Way] 0∧fr' 10 = .int .i64 s269∧fr' 13 = .int .i64 0∧fr' 14 = .bool x285∧fr' 79=lst Chan.cells v_0.Chans∧fr' 80 = .int .i64
    (List.length v_0.Chans:Int)∧fr' 81 = .int .i64 (i143:Int)) (fun Q291 hN292=>?_) ?_
  ·simp only [List.take_succ_cons,List.take_zero]
   simp only [ql (g:=145),B0,reduceIte,reduceEqDiff]
   refine zn (t:=x288.Taken) (fun hg293=>?_) (fun hg293=>?_)
   ·simp only [hg293,ql (g:=145),z4,qe,jz,qb,kf,za,zp,qa,qo,B0,reduceIte,reduceEqDiff]
    exact hN292 _ _ ⟨(Sep.m2 (Sep.m2 (Sep.m2 hS272))),by rw [qb5 hg293]; simp only [B0,reduceIte,reduceEqDiff],f273,f274,f275,f276,f277,rfl,rfl,f278,f279,f280⟩
   ·simp only [hg293,ql (g:=145),kw,za,qb,zq,qa,qo,B0,reduceIte,reduceEqDiff]
    exact hN292 _ _ ⟨(Sep.m2 (Sep.m2 (Sep.m2 hS272))),by rw [qb4 hg293]; simp only [B0,reduceIte,reduceEqDiff],f273,f274,f275,f276,f277,rfl,rfl,f278,f279,f280⟩
  rintro fr294 h306 ⟨hS307,f295,f296,f297,f298,f299,f300,f301,f302,f303,f304,f305⟩
  simp only [List.drop_succ_cons,List.drop_zero]
  simp only [qa,f295,zc,B0,reduceIte,reduceEqDiff]
  obtain ⟨s308,hX310,hk311⟩:=qg hF290
  refine u5 (t:=(x288.Taken&&(!x285))) (fun fr' h'=>fr' 1 = .ref [lst cI v_0.Amounts,lst Chan.cells v_0.Chans,lst Picture.cells v_0.Pictures,.int .i64 v_0.Sent,
    .int .i64 v_0.Total] 0∧fr' 4 = .int .i64 s101∧fr' 7 = .ref [v112,v116,v120,.int .i64 v109.Sent,.int .i64 v109.Total] 0∧fr' 9 = .ref [.int .i64 x144.From,
    .int .i64 x144.To,lst cI x144.Way] 0∧fr' 10 = .int .i64 s269∧fr' 13 = .int .i64 s308∧fr' 14 = .bool x285∧fr' 79=lst Chan.cells v_0.Chans∧fr' 80 = .int .i64
    (List.length v_0.Chans:Int)∧fr' 81 = .int .i64 (i143:Int)∧Sep h' (geL h.length) (c113++(c223++(c121++([])))))
    (fun Q312 hN313 hR314 hE315=>⟨fun hc316=>?_,fun hc316=>?_⟩) ?_
  ·rw [iteT hc316] at hX310
   simp only [qc,qe,qa,qo,B0,reduceIte,reduceEqDiff]
   have e317:=qk hX310
   subst e317
   exact hN313 _ _ ⟨f296,f297,f298,f299,f300,rfl,f302,f303,f304,f305,(Sep.m2 (Sep.m2 (Sep.m2 hS307)))⟩
  ·rw [iteF hc316] at hX310
   simp only [zg,qo,B0,reduceIte,reduceEqDiff]
   have e318:=qk hX310
   subst e318
   exact hN313 _ _ ⟨f296,f297,f298,f299,f300,f301,f302,f303,f304,f305,(Sep.m2 (Sep.m2 (Sep.m2 hS307)))⟩
  rintro fr319 h320 ⟨f322,f323,f324,f325,f326,f327,f328,f329,f330,f331,hS321⟩
  unfold qc6 at hk311
  simp only [quy,qd,qc,f326,qe,f327,zf,qb,ws,B0,reduceIte,reduceEqDiff]
  obtain ⟨v335,hx336,hF337⟩:=qg hk311
  refine j0 12 (fun fr' h'=>Sep h' (geL h.length) (c113++(c223++(c121++([]))))∧fr' 164 = .bool v335∧fr' 1 = .ref [lst cI v_0.Amounts,lst Chan.cells v_0.Chans,
    lst Picture.cells v_0.Pictures,.int .i64 v_0.Sent,.int .i64 v_0.Total] 0∧fr' 4 = .int .i64 s101∧fr' 7 = .ref [v112,v116,v120,.int .i64 v109.Sent,
    .int .i64 v109.Total] 0∧fr' 79=lst Chan.cells v_0.Chans∧fr' 80 = .int .i64 (List.length v_0.Chans:Int)∧fr' 81 = .int .i64 (i143:Int)) (fun Q332 hN333=>?_) ?_
  ·simp only [List.take_succ_cons,List.take_zero]
   simp only [ql (g:=152),B0,reduceIte,reduceEqDiff]
   refine zn (t:=(decide (s269≠s308))) (fun hg334=>?_) (fun hg334=>?_)
   ·rw [iteT hg334] at hx336
    simp only [hg334,ql (g:=152),jm,ql (g:=154),qhh,za,qb,zp,qa,qo,B0,reduceIte,reduceEqDiff]
    have e338:=qk hx336
    exact hN333 _ _ ⟨(Sep.m2 (Sep.m2 (Sep.m2 hS321))),by rw [←e338]; simp only [B0,reduceIte,reduceEqDiff],f322,f323,f324,f329,f330,f331⟩
   ·rw [iteF hg334] at hx336
    simp only [hg334,ql (g:=152),qv,f328,qe,B0,reduceIte,reduceEqDiff]
    obtain ⟨v342,hx343,hF344⟩:=qg hx336
    refine j0 9 (fun fr' h'=>Sep h' (geL h.length) (c113++(c223++(c121++([]))))∧fr' 163 = .bool v342∧fr' 1 = .ref [lst cI v_0.Amounts,lst Chan.cells v_0.Chans,
      lst Picture.cells v_0.Pictures,.int .i64 v_0.Sent,.int .i64 v_0.Total] 0∧fr' 4 = .int .i64 s101∧fr' 7 = .ref [v112,v116,v120,.int .i64 v109.Sent,
      .int .i64 v109.Total] 0∧fr' 79=lst Chan.cells v_0.Chans∧fr' 80 = .int .i64 (List.length v_0.Chans:Int)∧fr' 81 = .int .i64 (i143:Int)∧fr' 152 = .bool
      (decide (s269≠s308))) (fun Q339 hN340=>?_) ?_
    ·simp only [List.take_succ_cons,List.take_zero]
     simp only [ql (g:=154),B0,reduceIte,reduceEqDiff]
     refine zn (t:=x285) (fun hg341=>?_) (fun hg341=>?_)
     ·rw [iteT hg341] at hx343
      simp only [hg341,ql (g:=154),z4,f322,qt,qb,Nat.reduceAdd,Nat.zero_add,Nat.add_zero,qr,qp,B0,reduceIte,reduceEqDiff]
      refine qh (v:=lst Picture.cells v_0.Pictures) rfl ?_
      simp only [hg341,ql (g:=154),z4,f325,qt,qb,Nat.reduceAdd,Nat.zero_add,Nat.add_zero,qr,qp,B0,reduceIte,reduceEqDiff]
      refine qh (v := .int .i64 x144.From) rfl ?_
      obtain ⟨x345,hx346,hF347⟩:=qg hx343
      simp only [hg341,ql (g:=154),z4,jg,B0,reduceIte,reduceEqDiff]
      refine qh (v := .ref (Picture.cells x345) 0) (k5 hx346 rfl) ?_
      simp only [hg341,ql (g:=154),z4,qt,qb,Nat.reduceAdd,Nat.zero_add,Nat.add_zero,qr,qp,B0,reduceIte,reduceEqDiff]
      refine qh (v := .bool x345.Taken) rfl ?_
      simp only [hg341,ql (g:=154),z4,jz,qb,kf,hg334,ql (g:=152),qv,za,zp,qa,qo,B0,
        reduceIte,reduceEqDiff]
      have e348:=qk hF347
      exact hN340 _ _ ⟨(Sep.m2 (Sep.m2 (Sep.m2 hS321))),by rw [←e348]; simp only [B0,reduceIte,reduceEqDiff],f322,f323,f324,f329,f330,f331,by simp only [hg334,
        B0,reduceIte,reduceEqDiff]⟩
     ·rw [iteF hg341] at hx343
      simp only [hg341,ql (g:=154),kw,hg334,ql (g:=152),qv,za,qb,zq,qa,qo,B0,reduceIte,
        reduceEqDiff]
      have e349:=qk hx343
      exact hN340 _ _ ⟨(Sep.m2 (Sep.m2 (Sep.m2 hS321))),by rw [←e349]; simp only [B0,reduceIte,reduceEqDiff],f322,f323,f324,f329,f330,f331,by simp only [hg334,
        B0,reduceIte,reduceEqDiff]⟩
    rintro fr350 h359 ⟨hS360,f351,f352,f353,f354,f355,f356,f357,f358⟩
    simp only [List.drop_succ_cons,List.drop_zero]
    simp only [f358,hg334,za,qb,zq,f351,qa,qo,B0,reduceIte,reduceEqDiff]
    have e361:=qk hF344
    exact hN333 _ _ ⟨(Sep.m2 (Sep.m2 (Sep.m2 hS360))),by rw [←e361]; simp only [B0,reduceIte,reduceEqDiff],f352,f353,f354,f355,f356,f357⟩
  rintro fr362 h370 ⟨hS371,f363,f364,f365,f366,f367,f368,f369⟩
  simp only [List.drop_succ_cons,List.drop_zero]
  simp only [qa,f363,zc,B0,reduceIte,reduceEqDiff]
  refine zb (t:=v335) (fun hc372=>?_) (fun hc372=>?_)
  ·rw [iteT hc372] at hF337
   simp only [qd,qc,qe,qa,qz,B0,reduceIte,reduceEqDiff]
   have e373:=qk hF337
   subst e373
   have ho374:=hr150 _ rfl
   have hk375:=hk148
   rw [ho374] at hk375
   dsimp only [jnO] at hk375
   apply hR154
   have he:=qk hk375
   subst he
   simp only [zl,B0,reduceIte,reduceEqDiff]
   exact rfl
  rw [iteF hc372] at hF337
  simp only [zg,qo,B0,reduceIte,reduceEqDiff]
  have e376:=qk hF337
  exact hN152 _ _ _ e376.symm ⟨c223,f364,f365,f366,f367,hv226,(Sep.m2 (Sep.m2 (Sep.m2 hS371)))⟩ (f369) (f368)
 rintro s380 fr383 h384 rfl ⟨c381,f386,f387,f388,f389,hv382,hS385⟩
 dsimp only [jnO] at hk148
 unfold qdb at hk148
 simp only [qug,qd,jd,f387,qhm,qf,f386,ze,B0,reduceIte,reduceEqDiff]
 refine qm (v := .agg [lst cI v_0.Amounts,lst Chan.cells v_0.Chans,lst Picture.cells v_0.Pictures,.int .i64 v_0.Sent,.int .i64 v_0.Total]) rfl ?_
 obtain ⟨v390,hx391,hF392⟩:=qg hk148
 simp only [qdn,B0,reduceIte,reduceEqDiff]
 refine qno rfl (qj (ji (qj zm (qj zm (qj zm (qj qq (qj qq q9)))))) q9) (qf2
   (fun b hb=>decide_eq_true hb) v_0 v390 hx391) ?_
 simp only [kn,qf,yz,f386,qdw,Nat.reduceAdd,Nat.zero_add,Nat.add_zero,qr,qbl,qbt,B0,reduceIte,reduceEqDiff]
 refine qm (v := .int .i64 v_0.Total) rfl ?_
 simp only [kn,qf,wi,zr,qs,qz,B0,reduceIte,reduceEqDiff]
 have he:=qk hF392
 subst he
 simp only [zl,B0,reduceIte,reduceEqDiff]
 exact rfl
theorem qmv {W:Nat→Bool}{h:Heap} (hW:∀ b,
  (geL h.length) b→W b=true) (k:Nat) (s_0:Snap) (r:Int × Bool) (hF:qa8 k s_0=some r) : Ret E W 11 [.agg [lst cI s_0.Amounts,lst Chan.cells s_0.Chans,
  lst Picture.cells s_0.Pictures,.int .i64 s_0.Sent,.int .i64 s_0.Total]] h (fun v h'=>cut h.length h' E.sz false 9 v=some (.tup [.int .i64 r.1,.bool r.2])):=by
 refine Ret.of (fn:=x11) rfl (Run.of ?_)
 unfold qa8 at hF
 have zf0:zh [.agg [lst cI s_0.Amounts,lst Chan.cells s_0.Chans,lst Picture.cells s_0.Pictures,.int .i64 s_0.Sent,.int .i64 s_0.Total]] 0 = .agg [lst cI s_0.Amounts,
   lst Chan.cells s_0.Chans,lst Picture.cells s_0.Pictures,.int .i64 s_0.Sent,.int .i64 s_0.Total]:=rfl
 generalize zh [.agg [lst cI s_0.Amounts,lst Chan.cells s_0.Chans,lst Picture.cells s_0.Pictures,.int .i64 s_0.Sent,.int .i64 s_0.Total]]=fr0 at zf0 ⊢
 have hS:Sep h (geL h.length) []:=Sep.nil h
 simp only [x11,qd,qc,kh,zf0,B0,reduceIte,reduceEqDiff]
 refine jt (cs:=[lst cI s_0.Amounts,lst Chan.cells s_0.Chans,lst Picture.cells s_0.Pictures,.int .i64 s_0.Sent,
   .int .i64 s_0.Total]) hS rfl rfl rfl (fun b1 h2 hS3=>?_)
 simp only [qe,qa,B0,reduceIte,reduceEqDiff]
 refine zw hS3 hW (by simp only [B0,reduceIte,reduceEqDiff]) (fun h5 hS6=>?_)
 simp only [zo,q1n,qd,qc,qp,B0,reduceIte,reduceEqDiff]
 refine qh (v := .agg [lst cI s_0.Amounts,lst Chan.cells s_0.Chans,lst Picture.cells s_0.Pictures,.int .i64 s_0.Sent,.int .i64 s_0.Total]) rfl ?_
 obtain ⟨v7,hx8,hF9⟩:=qg hF
 simp only [zd,B0,reduceIte,reduceEqDiff]
 refine j5 rfl (qj (ji (qj zm (qj zm (qj zm (qj qq (qj qq q9)))))) q9) (qcj
   (fun b hb=>decide_eq_true hb) k s_0 v7 hx8) ?_
 simp only [jz,qb,kf,qa,q19,zc,B0,reduceIte,reduceEqDiff]
 refine zb (t:=(!v7)) (fun hc10=>?_) (fun hc10=>?_)
 ·rw [iteT hc10] at hF9
  simp only [qd,qc,qe,qa,qz,B0,reduceIte,reduceEqDiff]
  have he:=qk hF9
  subst he
  simp only [qam,B0,reduceIte,reduceEqDiff]
  exact qac (qj rfl (qj rfl q9))
 rw [iteF hc10] at hF9
 simp only [zg,q5b,qd,qc,qp,B0,reduceIte,reduceEqDiff]
 refine qh (v := .agg [lst cI s_0.Amounts,lst Chan.cells s_0.Chans,lst Picture.cells s_0.Pictures,.int .i64 s_0.Sent,.int .i64 s_0.Total]) rfl ?_
 obtain ⟨v11,hx12,hF13⟩:=qg hF9
 simp only [zd,B0,reduceIte,reduceEqDiff]
 refine j5 rfl (qj (ji (qj zm (qj zm (qj zm (qj qq (qj qq q9)))))) q9) (qf2
   (fun b hb=>decide_eq_true hb) s_0 v11 hx12) ?_
 simp only [qe,qa,qz,B0,reduceIte,reduceEqDiff]
 have he:=qk hF13
 subst he
 simp only [qam,B0,reduceIte,reduceEqDiff]
 exact qac (qj rfl (qj rfl q9))
theorem qkm {W:Nat→Bool}{h:Heap} (hW:∀ b,
  (geL h.length) b→W b=true) (k:Nat) (s_0:Snap) (r:Bool) (hF:qdr k s_0=some r) : Ret E W 12 [.agg [lst cI s_0.Amounts,lst Chan.cells s_0.Chans,
  lst Picture.cells s_0.Pictures,.int .i64 s_0.Sent,.int .i64 s_0.Total]] h (fun v h'=>cut h.length h' E.sz false 9 v=some (.bool r)):=by
 refine Ret.of (fn:=x12) rfl (Run.of ?_)
 unfold qdr at hF
 have zf0:zh [.agg [lst cI s_0.Amounts,lst Chan.cells s_0.Chans,lst Picture.cells s_0.Pictures,.int .i64 s_0.Sent,.int .i64 s_0.Total]] 0 = .agg [lst cI s_0.Amounts,
   lst Chan.cells s_0.Chans,lst Picture.cells s_0.Pictures,.int .i64 s_0.Sent,.int .i64 s_0.Total]:=rfl
 generalize zh [.agg [lst cI s_0.Amounts,lst Chan.cells s_0.Chans,lst Picture.cells s_0.Pictures,.int .i64 s_0.Sent,.int .i64 s_0.Total]]=fr0 at zf0 ⊢
 have hS:Sep h (geL h.length) []:=Sep.nil h
 simp only [x12,qd,qc,kh,zf0,B0,reduceIte,reduceEqDiff]
 refine jt (cs:=[lst cI s_0.Amounts,lst Chan.cells s_0.Chans,lst Picture.cells s_0.Pictures,.int .i64 s_0.Sent,
   .int .i64 s_0.Total]) hS rfl rfl rfl (fun b1 h2 hS3=>?_)
 simp only [qe,qa,B0,reduceIte,reduceEqDiff]
 refine zw hS3 hW (by simp only [B0,reduceIte,reduceEqDiff]) (fun h5 hS6=>?_)
 simp only [zo,qd,qc,qp,B0,reduceIte,reduceEqDiff]
 refine qh (v := .agg [lst cI s_0.Amounts,lst Chan.cells s_0.Chans,lst Picture.cells s_0.Pictures,.int .i64 s_0.Sent,.int .i64 s_0.Total]) rfl ?_
 obtain ⟨v7,hx8,hF9⟩:=qg hF
 simp only [zd,B0,reduceIte,reduceEqDiff]
 refine j5 rfl (qj (ji (qj zm (qj zm (qj zm (qj qq (qj qq q9)))))) q9) (qcj
   (fun b hb=>decide_eq_true hb) k s_0 v7 hx8) ?_
 simp only [qe,qa,qz,B0,reduceIte,reduceEqDiff]
 have he:=qk hF9
 subst he
 simp only [zl,B0,reduceIte,reduceEqDiff]
 exact rfl
theorem qj4 {W:Nat→Bool}{h:Heap} (hW:∀ b,
  (geL h.length) b→W b=true) (k:Nat) (s_0:Snap) (r:Int × Bool) (hF:wh k s_0=some r) : Ret E W 13 [.agg [lst cI s_0.Amounts,lst Chan.cells s_0.Chans,
  lst Picture.cells s_0.Pictures,.int .i64 s_0.Sent,.int .i64 s_0.Total]] h (fun v h'=>cut h.length h' E.sz false 9 v=some (.tup [.int .i64 r.1,.bool r.2])):=by
 refine Ret.of (fn:=x13) rfl (Run.of ?_)
 unfold wh at hF
 have zf0:zh [.agg [lst cI s_0.Amounts,lst Chan.cells s_0.Chans,lst Picture.cells s_0.Pictures,.int .i64 s_0.Sent,.int .i64 s_0.Total]] 0 = .agg [lst cI s_0.Amounts,
   lst Chan.cells s_0.Chans,lst Picture.cells s_0.Pictures,.int .i64 s_0.Sent,.int .i64 s_0.Total]:=rfl
 generalize zh [.agg [lst cI s_0.Amounts,lst Chan.cells s_0.Chans,lst Picture.cells s_0.Pictures,.int .i64 s_0.Sent,.int .i64 s_0.Total]]=fr0 at zf0 ⊢
 have hS:Sep h (geL h.length) []:=Sep.nil h
 simp only [x13,qd,qc,kh,zf0,B0,reduceIte,reduceEqDiff]
 refine jt (cs:=[lst cI s_0.Amounts,lst Chan.cells s_0.Chans,lst Picture.cells s_0.Pictures,.int .i64 s_0.Sent,
   .int .i64 s_0.Total]) hS rfl rfl rfl (fun b1 h2 hS3=>?_)
 simp only [qe,qa,B0,reduceIte,reduceEqDiff]
 refine zw hS3 hW (by simp only [B0,reduceIte,reduceEqDiff]) (fun h5 hS6=>?_)
 simp only [zo,qro,qd,qc,qp,B0,reduceIte,reduceEqDiff]
 refine qh (v := .agg [lst cI s_0.Amounts,lst Chan.cells s_0.Chans,lst Picture.cells s_0.Pictures,.int .i64 s_0.Sent,.int .i64 s_0.Total]) rfl ?_
 obtain ⟨v7,hx8,hF9⟩:=qg hF
 simp only [zd,B0,reduceIte,reduceEqDiff]
 refine j5 rfl (qj (ji (qj zm (qj zm (qj zm (qj qq (qj qq q9)))))) q9) (qcj
   (fun b hb=>decide_eq_true hb) k s_0 v7 hx8) ?_
 simp only [jz,qb,kf,qa,q3a,zc,B0,reduceIte,reduceEqDiff]
 refine zb (t:=(!v7)) (fun hc10=>?_) (fun hc10=>?_)
 ·rw [iteT hc10] at hF9
  simp only [qd,qc,qe,qa,qz,B0,reduceIte,reduceEqDiff]
  have he:=qk hF9
  subst he
  simp only [qam,B0,reduceIte,reduceEqDiff]
  exact qac (qj rfl (qj rfl q9))
 rw [iteF hc10] at hF9
 simp only [zg,qvs,qd,qc,qe,qa,qv2,qt,qb,Nat.reduceAdd,Nat.zero_add,Nat.add_zero,qr,qp,B0,reduceIte,
   reduceEqDiff]
 refine qh (v:=lst Picture.cells s_0.Pictures) rfl ?_
 simp only [z6,qb,z5,qe,qa,B0,reduceIte,reduceEqDiff]
 obtain ⟨oc15,hX17,hk18⟩:=jp hF9
 simp only [qv5]
 refine ko (σ:=Int) s_0.Pictures (fun i13 x14 s107=>u1 i13 x14 s107)
   (fun s fr' h'=>fr' 4 = .int .i64 s∧fr' 13=lst Picture.cells s_0.Pictures∧Sep h' (geL h.length) ([])) hX17 ⟨rfl,rfl,hS6⟩ (by simp only [B0,reduceIte,
   reduceEqDiff]) (by simp only [B0,reduceIte,reduceEqDiff]) (fun _ _ _ h=>h) rfl rfl (fun _ _ _ _ h=>h) (fun _ _ _ _ h=>h) (fun _ _ _ _ h=>h) (by decide) ?_ ?_
 ·rintro i13 x14 s12 fr27 h28 hx32 ⟨f30,f31,hS29⟩ f33 f34 oc16 hF19 hr20 Q21 hN22 hB26 hK23 hR24 hE25
  unfold u1 at hF19
  simp only [qv6,qd,qc,f31,f33,jg,B0,reduceIte,reduceEqDiff]
  refine qh (v := .ref (Picture.cells x14) 0) (kp hx32 rfl) ?_
  simp only [qp,B0,reduceIte,reduceEqDiff]
  refine qh (v := .agg [.bool x14.Taken,.int .i64 x14.Amount,lst cI x14.In,lst cB x14.Closed]) rfl ?_
  simp only [jb,B0,reduceIte,reduceEqDiff]
  refine zv hS29 (fun b35 h36 hS37=>?_)
  simp only [zj,B0,reduceIte,reduceEqDiff]
  refine qx (us:=[.bool x14.Taken,.int .i64 x14.Amount,lst cI x14.In,lst cB x14.Closed]) rfl (cs':=[.bool x14.Taken,.int .i64 x14.Amount,lst cI x14.In,
    lst cB x14.Closed]) hS37 hW rfl rfl (Nat.le_of_ble_eq_true rfl) rfl (fun h39 hS40=>?_)
  simp only [qa,B0,reduceIte,reduceEqDiff]
  refine zw hS40 hW (by simp only [B0,reduceIte,reduceEqDiff]) (fun h41 hS42=>?_)
  simp only [zo,q2v,qd,qc,qt,qb,Nat.reduceAdd,Nat.zero_add,Nat.add_zero,qr,qp,B0,reduceIte,reduceEqDiff]
  refine qh (v := .bool x14.Taken) rfl ?_
  simp only [jz,qb,kf,qe,B0,reduceIte,reduceEqDiff]
  obtain ⟨v46,hx47,hF48⟩:=qg hF19
  refine j0 4 (fun fr' h'=>Sep h' (geL h.length) ([])∧fr' 26 = .bool v46∧fr' 4 = .int .i64 s12∧fr' 6 = .ref [.bool x14.Taken,.int .i64 x14.Amount,lst cI x14.In,
    lst cB x14.Closed] 0∧fr' 13=lst Picture.cells s_0.Pictures∧fr' 14 = .int .i64 (List.length s_0.Pictures:Int)∧fr' 15 = .int .i64 (i13:Int))
    (fun Q43 hN44=>?_) ?_
  ·simp only [List.take_succ_cons,List.take_zero]
   simp only [ql (g:=22),B0,reduceIte,reduceEqDiff]
   refine zn (t:=(!x14.Taken)) (fun hg45=>?_) (fun hg45=>?_)
   ·rw [iteT hg45] at hx47
    simp only [hg45,ql (g:=22),jm,za,qb,zp,qa,qo,B0,reduceIte,reduceEqDiff]
    have e49:=qk hx47
    exact hN44 _ _ ⟨hS42,by rw [←e49]; simp only [B0,reduceIte,reduceEqDiff],f30,rfl,f31,f34,f33⟩
   ·rw [iteF hg45] at hx47
    simp only [hg45,ql (g:=22),qv,qt,qb,Nat.reduceAdd,Nat.zero_add,Nat.add_zero,qr,qp,B0,reduceIte,reduceEqDiff]
    refine qh (v:=lst cB x14.Closed) rfl ?_
    obtain ⟨v50,hx51,hF52⟩:=qg hx47
    simp only [hg45,ql (g:=22),qv,zd,B0,reduceIte,reduceEqDiff]
    refine j5 rfl (qj zm (qj qea q9)) (qdp (fun b hb=>decide_eq_true hb) x14.Closed false v50 hx51) ?_
    simp only [hg45,za,qb,zq,qa,qo,B0,reduceIte,reduceEqDiff]
    have e53:=qk hF52
    exact hN44 _ _ ⟨hS42,by rw [←e53]; simp only [B0,reduceIte,reduceEqDiff],f30,rfl,f31,f34,f33⟩
  rintro fr54 h61 ⟨hS62,f55,f56,f57,f58,f59,f60⟩
  simp only [List.drop_succ_cons,List.drop_zero]
  simp only [qa,q0a,f55,zc,B0,reduceIte,reduceEqDiff]
  refine zb (t:=v46) (fun hc63=>?_) (fun hc63=>?_)
  ·rw [iteT hc63] at hF48
   simp only [qd,qc,qe,qa,qz,B0,reduceIte,reduceEqDiff]
   have e64:=qk hF48
   subst e64
   have ho65:=hr20 _ rfl
   have hk66:=hk18
   rw [ho65] at hk66
   dsimp only [jnO] at hk66
   apply hR24
   have he:=qk hk66
   subst he
   simp only [qam,B0,reduceIte,reduceEqDiff]
   exact qac (qj rfl (qj rfl q9))
  rw [iteF hc63] at hF48
  simp only [zg,qzx,qd,qc,f56,qe,f57,qt,qb,Nat.reduceAdd,Nat.zero_add,Nat.add_zero,qr,qp,B0,reduceIte,reduceEqDiff]
  refine qh (v := .int .i64 x14.Amount) rfl ?_
  simp only [zf,qb,yz,qe,qa,q4p,qd,qc,f57,qt,Nat.reduceAdd,Nat.zero_add,Nat.add_zero,qr,qp,B0,reduceIte,
    reduceEqDiff]
  refine qh (v:=lst cI x14.In) rfl ?_
  simp only [z6,qb,z5,qe,qa,B0,reduceIte,reduceEqDiff]
  obtain ⟨oc71,hX73,hk74⟩:=jp hF48
  simp only [q3q]
  refine ko (σ:=Int) x14.In (fun i69 x70 s95=>uf i69 x70 s95)
    (fun s fr' h'=>fr' 4 = .int .i64 s∧fr' 13=lst Picture.cells s_0.Pictures∧fr' 14 = .int .i64 (List.length s_0.Pictures:Int)∧fr' 15 = .int .i64
    (i13:Int)∧fr' 32=lst cI x14.In∧Sep h' (geL h.length) ([])) hX73 ⟨rfl,f58,f59,f60,rfl,hS62⟩ (by simp only [B0,reduceIte,reduceEqDiff]) (by simp only [B0,
    reduceIte,reduceEqDiff]) (fun _ _ _ h=>h) rfl rfl (fun _ _ _ _ h=>h) (fun _ _ _ _ h=>h) (fun _ _ _ _ h=>h) (by decide) ?_ ?_
  ·rintro i69 x70 s68 fr83 h84 hx91 ⟨f86,f87,f88,f89,f90,hS85⟩ f92 f93 oc72 hF75 hr76 Q77 hN78 hB82 hK79 hR80 hE81
   unfold uf at hF75
   simp only [q31,qd,qc,f90,f92,jg,B0,reduceIte,reduceEqDiff]
   refine qh (v := .ref (cI x70) 0) (kp hx91 rfl) ?_
   simp only [qp,B0,reduceIte,reduceEqDiff]
   refine qh (v := .int .i64 x70) rfl ?_
   simp only [qe,qa,q13,qc,f86,zf,qb,yz,qo,B0,reduceIte,reduceEqDiff]
   have e94:=qk hF75
   exact hN78 _ _ _ e94.symm ⟨rfl,f87,f88,f89,f90,hS85⟩ (f92) (f93)
  rintro s96 fr97 h98 rfl ⟨f100,f101,f102,f103,f104,hS99⟩
  dsimp only [jnO] at hk74
  unfold qf0 at hk74
  simp only [qo,B0,reduceIte,reduceEqDiff]
  have e105:=qk hk74
  exact hN22 _ _ _ e105.symm ⟨f100,f101,hS99⟩ (f103) (f102)
 rintro s108 fr109 h110 rfl ⟨f112,f113,hS111⟩
 dsimp only [jnO] at hk18
 unfold qf7 at hk18
 simp only [qd,qc,f112,qe,qa,qz,B0,reduceIte,reduceEqDiff]
 have he:=qk hk18
 subst he
 simp only [qam,B0,reduceIte,reduceEqDiff]
 exact qac (qj rfl (qj rfl q9))
end Go.Proofs.Ytpkiieniipenjaa.X
namespace Go.Proofs.Ytpkiieniipenjaa.X
open Go
open Nat (reduceEqDiff)
theorem qg2 {W:Nat→Bool}{h:Heap}{lo:Nat→Prop}{S0:List Obj} (hW:∀ b,
  lo b→W b=true) (pb0:Nat) (v_0:Snap) (pv0_0:XV) (pc0_0:List Obj) (ph0_0:SlF cI 1 3 pv0_0 v_0.Amounts pc0_0) (pv0_1:XV) (pc0_1:List Obj)
  (ph0_1:SlN Chan.R 3 74 pv0_1 v_0.Chans pc0_1) (pv0_2:XV) (pc0_2:List Obj) (ph0_2:SlN Picture.R 4 76 pv0_2 v_0.Pictures pc0_2) (v_1:Int) (r:Bool × Snap)
  (hF:wx v_0 v_1=some r) (hS:Sep h lo ([Blk1 pb0 [pv0_0,pv0_1,pv0_2,.int .i64 v_0.Sent,
  .int .i64 v_0.Total] 30]++(pc0_0++(pc0_1++(pc0_2++(S0)))))) : Ret E W 76 [.ptr pb0 0,.int .i64 v_1] h (fun v h'=>∃ ic0_0 ic0_1 ic0_2,
  v = .bool r.1∧SlF cI 1 3 pv0_0 r.2.Amounts ic0_0∧SlN Chan.R 3 74 pv0_1 r.2.Chans ic0_1∧SlN Picture.R 4 76 pv0_2 r.2.Pictures ic0_2∧Sep h' lo ([Blk1 pb0 [pv0_0,pv0_1,
  pv0_2,.int .i64 r.2.Sent,.int .i64 r.2.Total] 30]++(ic0_0++(ic0_1++(ic0_2++(S0)))))):=by
 refine Ret.of (fn:=x76) rfl (Run.of ?_)
 unfold wx at hF
 have zf0:zh [.ptr pb0 0,.int .i64 v_1] 0 = .ptr pb0 0:=rfl
 have zf1:zh [.ptr pb0 0,.int .i64 v_1] 1 = .int .i64 v_1:=rfl
 generalize zh [.ptr pb0 0,.int .i64 v_1]=fr0 at zf0 zf1 ⊢
 simp only [x76,qd,qc,qe,qa,qvn,zf0,we,qb,zy,qt,Nat.reduceAdd,Nat.zero_add,Nat.add_zero,qu,qp,B0,
   reduceIte,reduceEqDiff]
 refine qh (v:=pv0_1) ((jj (Sep.bk _ _ _ hS)).trans rfl) ?_
 simp only [z6,qb,SlN.len ph0_1,qe,qa,B0,reduceIte,reduceEqDiff]
 obtain ⟨oc9,hX11,hk12⟩:=jp hF
 simp only [q37]
 refine qce (σ:=(List Chan)) (fun i7 s79=>u4 v_0 v_1 i7 s79) (fun s fr' h'=>∃ c5,
   fr' 0 = .ptr pb0 0∧fr' 1 = .int .i64 v_1∧fr' 12=pv0_1∧SlN Chan.R 3 74 pv0_1 s c5∧Sep h' lo ([Blk1 pb0 [pv0_0,pv0_1,pv0_2,.int .i64 v_0.Sent,
   .int .i64 v_0.Total] 30]++(c5++(pc0_0++(pc0_2++(S0)))))) hX11 ⟨pc0_1,zf0,zf1,rfl,ph0_1,(Sep.m3 (Sep.m3 (Sep.m2 (Sep.m3 hS))))⟩ (by simp only [B0,reduceIte,
   reduceEqDiff]) (by simp only [B0,reduceIte,reduceEqDiff]) (fun _ _ _ h=>h) rfl rfl (fun _ _ _ _ h=>h) (fun _ _ _ _ h=>h) (fun _ _ _ _ h=>h) (by decide) ?_ ?_
 ·rintro i7 s4 fr21 h22 hx27 ⟨c5,f24,f25,f26,hv6,hS23⟩ f28 f29 oc10 hF13 hr14 Q15 hN16 hB20 hK17 hR18 hE19
  unfold u4 at hF13
  obtain ⟨x30,hx31,hF32⟩:=qg hF13
  simp only [q5d,qd,qc,f26,f28,jg,B0,reduceIte,reduceEqDiff]
  obtain ⟨b33,hb34⟩:=SlN.isrow hv6 (jq hx31)
  refine qh (SlN.ia hv6 hb34 hx31) ?_
  obtain ⟨c35,cs36,os37,hv38,hR39,hS40⟩:=SlG.opn (SlN.toG hv6 hb34 Chan.RO.len) hx31 z7 Chan.RO.len (Sep.m1 hS23)
  obtain ⟨v42,c43,hv44,rfl,rfl⟩:=hR39
  have hS41:=Sep.no1 hS40
  simp only [qp,B0,reduceIte,reduceEqDiff]
  refine qh (v := .agg [.int .i64 x30.From,.int .i64 x30.To,v42]) ((SlG.lds (o:=0) hv38 rfl hx31 hS41 (Nat.le_of_ble_eq_true rfl)).trans rfl) ?_
  simp only [jb,B0,reduceIte,reduceEqDiff]
  refine zv hS41 (fun b46 h47 hS48=>?_)
  simp only [zj,B0,reduceIte,reduceEqDiff]
  refine qx (us:=[.int .i64 x30.From,.int .i64 x30.To,v42]) rfl (cs':=[.int .i64 x30.From,.int .i64 x30.To,
    v42]) hS48 hW rfl (qi rfl (qi rfl (qi (SlF.one hv44) zk))) (Nat.le_of_ble_eq_true rfl) rfl (fun h50 hS51=>?_)
  simp only [qa,B0,reduceIte,reduceEqDiff]
  refine zw hS51 hW (by simp only [B0,reduceIte,reduceEqDiff]) (fun h52 hS53=>?_)
  simp only [zo,qzu,qd,qc,qt,qb,Nat.reduceAdd,Nat.zero_add,Nat.add_zero,qr,qp,B0,reduceIte,reduceEqDiff]
  refine qh (v := .int .i64 x30.From) rfl ?_
  simp only [f25,qe,zf,qb,wi,B0,reduceIte,reduceEqDiff]
  refine j0 5 (fun fr' h'=>Sep h' lo ([Blk1 pb0 [pv0_0,pv0_1,pv0_2,.int .i64 v_0.Sent,
    .int .i64 v_0.Total] 30]++(c35++(pc0_0++(pc0_2++(c43++(S0))))))∧fr' 27 = .bool ((decide (x30.From=v_1))&&(decide
    ((List.length x30.Way:Int)=8)))∧fr' 0 = .ptr pb0 0∧fr' 1 = .int .i64 v_1∧fr' 12=pv0_1∧fr' 13 = .int .i64 (List.length v_0.Chans:Int)∧fr' 14 = .int .i64
    (i7:Int)) (fun Q54 hN55=>?_) ?_
  ·simp only [List.take_succ_cons,List.take_zero]
   simp only [ql (g:=22),B0,reduceIte,reduceEqDiff]
   refine zn (t:=(decide (x30.From=v_1))) (fun hg56=>?_) (fun hg56=>?_)
   ·simp only [hg56,ql (g:=22),z4,qt,qb,Nat.reduceAdd,Nat.zero_add,Nat.add_zero,qr,qp,B0,reduceIte,reduceEqDiff]
    refine qh (v:=v42) rfl ?_
    simp only [hg56,ql (g:=22),z4,z6,qb,SlF.plen hv44,zf,wi,za,zp,qa,qo,B0,reduceIte,reduceEqDiff]
    exact hN55 _ _ ⟨(Sep.m4 (Sep.m3 (Sep.m4 (Sep.m4 (Sep.m1 hS53))))),by rw [qb5 hg56]; simp only [B0,reduceIte,reduceEqDiff],f24,f25,f26,f29,f28⟩
   ·simp only [hg56,ql (g:=22),kw,za,qb,zq,qa,qo,B0,reduceIte,reduceEqDiff]
    exact hN55 _ _ ⟨(Sep.m4 (Sep.m3 (Sep.m4 (Sep.m4 (Sep.m1 hS53))))),by rw [qb4 hg56]; simp only [B0,reduceIte,reduceEqDiff],f24,f25,f26,f29,f28⟩
  rintro fr57 h64 ⟨hS65,f58,f59,f60,f61,f62,f63⟩
  simp only [List.drop_succ_cons,List.drop_zero]
  simp only [qa,f58,zc,B0,reduceIte,reduceEqDiff]
  refine zb (t:=((decide (x30.From=v_1))&&(decide ((List.length x30.Way:Int)=8)))) (fun hc66=>?_) (fun hc66=>?_)
  ·rw [iteT hc66] at hF32
   simp only [qd,qc,qe,qa,qz,B0,reduceIte,reduceEqDiff]
   have e67:=qk hF32
   subst e67
   have ho68:=hr14 _ rfl
   have hk69:=hk12
   rw [ho68] at hk69
   dsimp only [jnO] at hk69
   apply hR18
   obtain ⟨c70,hv71,hS72⟩:=SlG.cls0 (c:=c35) (os:=c43) hv38 rfl hx31 z7 (Chan.RI (x:=x30) hv44) (Sep.m2 (Sep.m4 hS65))
   have hv73:=SlG.toN hv71
   have he:=qk hk69
   subst he
   simp only [zl,B0,reduceIte,reduceEqDiff]
   exact ⟨pc0_0,c70,pc0_2,by first | trivial | rfl,ph0_0,hv73,ph0_2,(Sep.m3 (Sep.m3 (Sep.m1 (Sep.m3 hS72))))⟩
  rw [iteF hc66] at hF32
  simp only [zg,qo,B0,reduceIte,reduceEqDiff]
  obtain ⟨c74,hv75,hS76⟩:=SlG.cls0 (c:=c35) (os:=c43) hv38 rfl hx31 z7 (Chan.RI (x:=x30) hv44) (Sep.m2 (Sep.m4 hS65))
  have hv77:=SlG.toN hv75
  have e78:=qk hF32
  exact hN16 _ _ _ e78.symm ⟨c74,f59,f60,f61,hv77,(Sep.m3 (Sep.m2 (Sep.m3 (Sep.m3 hS76))))⟩ (f63) (f62)
 rintro s80 fr83 h84 rfl ⟨c81,f86,f87,f88,hv82,hS85⟩
 dsimp only [jnO] at hk12
 unfold qdl at hk12
 simp only [qve,qd,qc,f86,qe,we,qb,zy,qt,Nat.reduceAdd,Nat.zero_add,Nat.add_zero,qu,qp,B0,reduceIte,reduceEqDiff]
 refine qh (v:=pv0_1) ((jj (Sep.bk _ _ _ hS85)).trans rfl) ?_
 simp only [z6,qb,SlN.len hv82,qe,qa,B0,reduceIte,reduceEqDiff]
 obtain ⟨oc97,hX99,hk100⟩:=jp hk12
 simp only [qsp]
 refine qce (σ:=(List Chan)) (fun i95 s164=>qbp v_1 i95 s164) (fun s fr' h'=>∃ c93,
   fr' 0 = .ptr pb0 0∧fr' 1 = .int .i64 v_1∧SlN Chan.R 3 74 pv0_1 s c93∧Sep h' lo ([Blk1 pb0 [pv0_0,pv0_1,pv0_2,.int .i64 v_0.Sent,
   .int .i64 v_0.Total] 30]++(pc0_0++(c93++(pc0_2++(S0)))))) hX99 ⟨c81,f86,f87,hv82,(Sep.m3 (Sep.m3 (Sep.m2 (Sep.m3 hS85))))⟩ (by simp only [B0,reduceIte,
   reduceEqDiff]) (by simp only [B0,reduceIte,reduceEqDiff]) (fun _ _ _ h=>h) rfl rfl (fun _ _ _ _ h=>h) (fun _ _ _ _ h=>h) (fun _ _ _ _ h=>h) (by decide) ?_ ?_
 ·rintro i95 s92 fr109 h110 hx114 ⟨c93,f112,f113,hv94,hS111⟩ f115 f116 oc98 hF101 hr102 Q103 hN104 hB108 hK105 hR106 hE107
  unfold qbp at hF101
  simp only [q1x,qd,qc,f115,qe,qa,q36,f112,we,qb,zy,qt,Nat.reduceAdd,Nat.zero_add,Nat.add_zero,qu,qp,
    B0,reduceIte,reduceEqDiff]
  refine qh (v:=pv0_1) ((jj (Sep.bk _ _ _ hS111)).trans rfl) ?_
  obtain ⟨x117,hx118,hF119⟩:=qg hF101
  simp only [qe,jg,B0,reduceIte,reduceEqDiff]
  obtain ⟨b120,hb121⟩:=SlN.isrow hv94 (jq hx118)
  refine qh (SlN.ia hv94 hb121 hx118) ?_
  obtain ⟨c122,cs123,os124,hv125,hR126,hS127⟩:=SlG.opn (SlN.toG hv94 hb121 Chan.RO.len) hx118 z7 Chan.RO.len (Sep.m2 hS111)
  obtain ⟨v129,c130,hv131,rfl,rfl⟩:=hR126
  have hS128:=Sep.no1 hS127
  simp only [qt,qb,Nat.reduceAdd,Nat.zero_add,Nat.add_zero,qu,qp,B0,reduceIte,reduceEqDiff]
  refine qh (v := .int .i64 x117.From) ((SlG.ld (o:=0) hv125 rfl hx118 hS128 (Nat.le_of_ble_eq_true rfl)).trans rfl) ?_
  simp only [f113,qe,zf,qb,wi,qa,q3i,zc,B0,reduceIte,reduceEqDiff]
  refine zb (t:=(decide (x117.From=v_1))) (fun hc133=>?_) (fun hc133=>?_)
  ·rw [iteT hc133] at hF119
   simp only [qyb,jd,f112,qhm,qf,q8b,zy,qdw,Nat.reduceAdd,Nat.zero_add,Nat.add_zero,qu,qbl,B0,reduceIte,reduceEqDiff]
   refine qhs (Sep.ltk (Sep.m2 hS128)) ?_
   refine qm (v:=pv0_1) ((jj (Sep.bk _ _ _ (Sep.m2 hS128))).trans rfl) ?_
   simp only [qhm,qf,f112,zr,ka,zy,zi,Nat.reduceAdd,Nat.zero_add,Nat.add_zero,qu,ze,B0,reduceIte,reduceEqDiff]
   refine qm (v:=pv0_1) ((jj (Sep.bk _ _ _ (Sep.m2 hS128))).trans rfl) ?_
   simp only [zr,qf,jo,B0,reduceIte,reduceEqDiff]
   refine qm (SlG.ia hv125 hx118) ?_
   simp only [zi,qf,Nat.reduceAdd,Nat.zero_add,Nat.add_zero,qu,ze,B0,reduceIte,reduceEqDiff]
   refine qm (v:=v129) ((SlG.ld (o:=2) hv125 rfl hx118 hS128 (Nat.le_of_ble_eq_true rfl)).trans rfl) ?_
   simp only [u9,evp,B0,reduceIte,reduceEqDiff]
   refine uh (n:=1) (f:=cI) [0] hS128 rfl rfl (fun v134 c135 h136 hv137 hS138=>?_)
   simp only [qez,B0,reduceIte,reduceEqDiff]
   obtain ⟨l140,hx141,hF142⟩:=qg hF119
   refine qij (qkv (fun z hz=>Sep.dj (Sep.m3 (Sep.m3 hS138)) qkw (SlF.rowfp hv131 z hz)) qgy) ?_
   refine qa2 (f:=cI) hv131 (Sep.m2 hS138) hW (fun _=>rfl) (fun _=>rfl) (SlF.first hv137 hS138 (fun _=>rfl)) hx141 (fun v143 c144 h145 hv146 hS147=>?_)
   simp only [jo,B0,reduceIte,reduceEqDiff]
   refine qm (SlG.ia hv125 hx118) ?_
   simp only [zi,qf,Nat.reduceAdd,Nat.zero_add,Nat.add_zero,qu,xj,B0,reduceIte,reduceEqDiff]
   refine qcc (us:=[v143]) (o:=2) (cs':=[.int .i64 x117.From,.int .i64 x117.To,
     v143]) (j6 (SlF.one hv146)) hv125 rfl hx118 (Sep.m2 hS147) hW rfl (qi (SlF.one hv146) zk) (Nat.le_of_ble_eq_true rfl) rfl (fun c151 h149 hv152 hS150=>?_)
   simp only [qs,qo,B0,reduceIte,reduceEqDiff]
   obtain ⟨c153,hv154,hS155⟩:=SlG.cls (e':=(Chan.mk x117.From x117.To l140)) (c:=c151) (os:=c144) hv152 rfl hx118 z7 (Chan.RI (x :=
     (Chan.mk x117.From x117.To l140)) hv146) (Sep.m1 (Sep.m1 hS150))
   have hx156:=j7 (x':=(Chan.mk x117.From x117.To l140)) hx118
   have hv157:=SlG.toN hv154
   have e158:=qk hF142
   exact hN104 _ _ _ e158.symm ⟨c153,f112,f113,hv157,(Sep.m3 (Sep.m3 (Sep.m1 (Sep.m3 (Sep.dc (Sep.m1 hS155))))))⟩ (f115) (f116)
  rw [iteF hc133] at hF119
  simp only [zg,qo,B0,reduceIte,reduceEqDiff]
  obtain ⟨c159,hv160,hS161⟩:=SlG.cls0 (c:=c122) (os:=c130) hv125 rfl hx118 z7 (Chan.RI (x:=x117) hv131) (Sep.m1 (Sep.m1 hS128))
  have hv162:=SlG.toN hv160
  have e163:=qk hF119
  exact hN104 _ _ _ e163.symm ⟨c159,f112,f113,hv162,(Sep.m3 (Sep.m3 (Sep.m1 (Sep.m3 hS161))))⟩ (f115) (f116)
 rintro s165 fr168 h169 rfl ⟨c166,f171,f172,hv167,hS170⟩
 dsimp only [jnO] at hk100
 unfold qdj at hk100
 simp only [qqy,qd,qc,f171,qe,we,qb,zy,qt,Nat.reduceAdd,Nat.zero_add,Nat.add_zero,qu,qp,B0,reduceIte,reduceEqDiff]
 refine qh (v:=pv0_2) ((jj (Sep.bk _ _ _ hS170)).trans rfl) ?_
 obtain ⟨x173,hx174,hF175⟩:=qg hk100
 simp only [f172,qe,jg,B0,reduceIte,reduceEqDiff]
 obtain ⟨b176,hb177⟩:=SlN.isrow ph0_2 (jq hx174)
 refine qh (SlN.ia ph0_2 hb177 hx174) ?_
 obtain ⟨c180,cs181,os182,hv183,hR184,hS185⟩:=SlG.opn (SlN.toG ph0_2 hb177 Picture.RO.len) hx174 z7 Picture.RO.len (Sep.m3 hS170)
 obtain ⟨v187,c188,v191,c192,hv189,hv193,rfl,rfl⟩:=hR184
 have hS186:=Sep.no2 hS185
 simp only [qe,qa,qvd,qd,qc,we,qb,zy,qt,Nat.reduceAdd,Nat.zero_add,Nat.add_zero,qu,zj,B0,reduceIte,
   reduceEqDiff]
 refine qfn (us:=[.bool true]) (o:=0) (cs':=[.bool true,.int .i64 x173.Amount,v187,
   v191]) rfl hv183 rfl hx174 hS186 hW rfl rfl (Nat.le_of_ble_eq_true rfl) rfl (fun c195 h178 hv196 hS179=>?_)
 simp only [qa,qrn,qd,qc,qe,f171,we,qb,zy,qt,Nat.reduceAdd,Nat.zero_add,Nat.add_zero,qu,qp,B0,reduceIte,
   reduceEqDiff]
 refine qh (v:=pv0_0) ((jj (Sep.bk _ _ _ (Sep.m3 hS179))).trans rfl) ?_
 obtain ⟨x197,hx198,hF199⟩:=qg hF175
 simp only [f172,qe,jg,B0,reduceIte,reduceEqDiff]
 obtain ⟨b200,hb201⟩:=SlF.isrow ph0_0 (jq hx198)
 refine qh (SlF.ia ph0_0 hb201 hx198) ?_
 simp only [qp,B0,reduceIte,reduceEqDiff]
 refine qh (v := .int .i64 x197) ((SlF.ld (o:=0) ph0_0 (Sep.m4 hS179) hb201 hx198 (fun _=>rfl) (Nat.le_of_ble_eq_true rfl)).trans rfl) ?_
 simp only [we,qb,zy,qt,Nat.reduceAdd,Nat.zero_add,Nat.add_zero,qu,zj,B0,reduceIte,reduceEqDiff]
 refine qfn (us:=[.int .i64 x197]) (o:=1) (cs':=[.bool true,.int .i64 x197,v187,
   v191]) rfl hv196 rfl hx174 hS179 hW rfl rfl (Nat.le_of_ble_eq_true rfl) rfl (fun c204 h202 hv205 hS203=>?_)
 simp only [qa,qql,qd,qc,qe,we,qb,zy,qt,Nat.reduceAdd,Nat.zero_add,Nat.add_zero,qu,qp,B0,reduceIte,
   reduceEqDiff]
 refine qh (v:=v191) ((SlG.ld (o:=3) hv205 rfl hx174 hS203 (Nat.le_of_ble_eq_true rfl)).trans rfl) ?_
 obtain ⟨x206,hx207,hF208⟩:=qg hF199
 simp only [f172,qe,jg,B0,reduceIte,reduceEqDiff]
 obtain ⟨b209,hb210⟩:=SlF.isrow hv193 (jq hx207)
 refine qh (SlF.ia hv193 hb210 hx207) ?_
 simp only [zj,B0,reduceIte,reduceEqDiff]
 refine qg4 (f:=cB) (x':=true) (o:=0) hv193 (Sep.m2 hS203) hW hb210 hx207 (fun _=>rfl) rfl rfl (Nat.le_of_ble_eq_true rfl) rfl (fun c213 h211 hv214 hS212=>?_)
 have hx215:=j7 (x':=true) hx207
 simp only [qa,qd,qc,qe,qz,B0,reduceIte,reduceEqDiff]
 obtain ⟨c216,hv217,hS218⟩:=SlG.cls (e':=(Picture.mk true x197 x173.In (List.set x173.Closed v_1.toNat true))) (c:=c204) (os:=c188++(c213)) hv205 rfl hx174 z7
   (Picture.RI (x:=(Picture.mk true x197 x173.In (List.set x173.Closed v_1.toNat true))) hv189 hv214) (Sep.ni2 (c1:=c188) (c2:=c213) (Sep.m2 (Sep.m2 hS212)))
 have hx219:=j7 (x':=(Picture.mk true x197 x173.In (List.set x173.Closed v_1.toNat true))) hx174
 have hv220:=SlG.toN hv217
 have he:=qk hF208
 subst he
 simp only [zl,B0,reduceIte,reduceEqDiff]
 exact ⟨pc0_0,c166,c216,by first | trivial | rfl,ph0_0,hv167,hv220,(Sep.m3 (Sep.m3 (Sep.m3 hS218)))⟩
end Go.Proofs.Ytpkiieniipenjaa.X
