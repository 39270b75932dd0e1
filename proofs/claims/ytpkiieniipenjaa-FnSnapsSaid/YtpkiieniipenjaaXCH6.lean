/- The functions' code comes to what the plain functions say (6). -/
import Derived.Test.YtpkiieniipenjaaXCH5
set_option linter.unusedVariables false
set_option linter.unusedSimpArgs false
set_option maxRecDepth 100000
namespace Go.Proofs.Ytpkiieniipenjaa.X
open Go
open Nat (reduceEqDiff)
theorem qj9 {W:Nat→Bool}{h:Heap} (hW:∀ b,
  (geL h.length) b→W b=true) (v_0:Snap) (v_1:Int) (r:Bool) (hF:qaf v_0 v_1=some r) : Ret E W 67 [.agg [lst cI v_0.Amounts,lst Chan.cells v_0.Chans,
  lst Picture.cells v_0.Pictures,.int .i64 v_0.Sent,.int .i64 v_0.Total],.int .i64 v_1] h (fun v h'=>cut h.length h' E.sz false 9 v=some (.bool r)):=by
 refine Ret.of (fn:=x67) rfl (Run.of ?_)
 unfold qaf at hF
 have zf0:zh [.agg [lst cI v_0.Amounts,lst Chan.cells v_0.Chans,lst Picture.cells v_0.Pictures,.int .i64 v_0.Sent,.int .i64 v_0.Total],
   .int .i64 v_1] 0 = .agg [lst cI v_0.Amounts,lst Chan.cells v_0.Chans,lst Picture.cells v_0.Pictures,.int .i64 v_0.Sent,.int .i64 v_0.Total]:=rfl
 have zf1:zh [.agg [lst cI v_0.Amounts,lst Chan.cells v_0.Chans,lst Picture.cells v_0.Pictures,.int .i64 v_0.Sent,.int .i64 v_0.Total],
   .int .i64 v_1] 1 = .int .i64 v_1:=rfl
 generalize zh [.agg [lst cI v_0.Amounts,lst Chan.cells v_0.Chans,lst Picture.cells v_0.Pictures,.int .i64 v_0.Sent,.int .i64 v_0.Total],.int .i64 v_1]=fr0 at zf0 zf1 ⊢
 have hS:Sep h (geL h.length) []:=Sep.nil h
 simp only [x67,qd,qc,kh,zf0,B0,reduceIte,reduceEqDiff]
 refine jt (cs:=[lst cI v_0.Amounts,lst Chan.cells v_0.Chans,lst Picture.cells v_0.Pictures,.int .i64 v_0.Sent,
   .int .i64 v_0.Total]) hS rfl rfl rfl (fun b1 h2 hS3=>?_)
 simp only [qe,qa,B0,reduceIte,reduceEqDiff]
 refine zw hS3 hW (by simp only [B0,reduceIte,reduceEqDiff]) (fun h5 hS6=>?_)
 simp only [zo,qz4,qd,qc,qt,qb,Nat.reduceAdd,Nat.zero_add,Nat.add_zero,qr,qp,B0,reduceIte,reduceEqDiff]
 refine qh (v:=lst Picture.cells v_0.Pictures) rfl ?_
 obtain ⟨x7,hx8,hF9⟩:=qg hF
 simp only [zf1,qe,jg,B0,reduceIte,reduceEqDiff]
 refine qh (v := .ref (Picture.cells x7) 0) (k5 hx8 rfl) ?_
 simp only [qp,B0,reduceIte,reduceEqDiff]
 refine qh (v := .agg [.bool x7.Taken,.int .i64 x7.Amount,lst cI x7.In,lst cB x7.Closed]) rfl ?_
 simp only [jb,B0,reduceIte,reduceEqDiff]
 refine zv hS6 (fun b10 h11 hS12=>?_)
 simp only [zj,B0,reduceIte,reduceEqDiff]
 refine qx (us:=[.bool x7.Taken,.int .i64 x7.Amount,lst cI x7.In,lst cB x7.Closed]) rfl (cs':=[.bool x7.Taken,.int .i64 x7.Amount,lst cI x7.In,
   lst cB x7.Closed]) hS12 hW rfl rfl (Nat.le_of_ble_eq_true rfl) rfl (fun h14 hS15=>?_)
 simp only [qa,B0,reduceIte,reduceEqDiff]
 refine zw hS15 hW (by simp only [B0,reduceIte,reduceEqDiff]) (fun h16 hS17=>?_)
 simp only [zo,qz5,qd,jd,zi,qf,Nat.reduceAdd,Nat.zero_add,Nat.add_zero,qr,ze,B0,reduceIte,reduceEqDiff]
 refine qm (v:=lst cI x7.In) rfl ?_
 simp only [qch,qf,z5,zi,Nat.reduceAdd,Nat.zero_add,Nat.add_zero,qr,ze,B0,reduceIte,reduceEqDiff]
 refine qm (v:=lst cI v_0.Amounts) rfl ?_
 simp only [qch,qf,z5,kn,ws,zr,B0,reduceIte,reduceEqDiff]
 refine wo 8 (fun fr' h'=>Sep h' (geL h.length) ([])∧fr' 28 = .bool ((decide ((List.length x7.In:Int)≠(List.length v_0.Amounts:Int)))||(decide
   ((List.length x7.Closed:Int)≠(List.length v_0.Amounts:Int))))∧fr' 1 = .int .i64 v_1∧fr' 5 = .ref [.bool x7.Taken,.int .i64 x7.Amount,lst cI x7.In,
   lst cB x7.Closed] 0) rfl (fun Q18 hN19=>?_) ?_
 ·simp only [List.take_succ_cons,List.take_zero]
  simp only [qn (g:=20),B0,reduceIte,reduceEqDiff]
  refine jf (t:=(decide ((List.length x7.In:Int)≠(List.length v_0.Amounts:Int)))) (fun hg20=>?_) (fun hg20=>?_)
  ·simp only [hg20,qn (g:=20),kr,z8,qf,zp,qs,qo,B0,reduceIte,reduceEqDiff]
   exact hN19 _ _ ⟨hS17,by rw [orT hg20]; simp only [B0,reduceIte,reduceEqDiff],zf1,rfl⟩
  ·simp only [hg20,qn (g:=20),q8,zi,qf,Nat.reduceAdd,Nat.zero_add,Nat.add_zero,qr,ze,B0,reduceIte,reduceEqDiff]
   refine qm (v:=lst cB x7.Closed) rfl ?_
   simp only [hg20,qn (g:=20),q8,qch,qf,z5,zi,Nat.reduceAdd,Nat.zero_add,Nat.add_zero,qr,ze,B0,reduceIte,
     reduceEqDiff]
   refine qm (v:=lst cI v_0.Amounts) rfl ?_
   simp only [hg20,qn (g:=20),q8,qch,qf,z5,kn,ws,z8,zq,qs,qo,B0,reduceIte,reduceEqDiff]
   exact hN19 _ _ ⟨hS17,by rw [orF hg20]; simp only [B0,reduceIte,reduceEqDiff],zf1,rfl⟩
 rintro fr21 h25 ⟨hS26,f22,f23,f24⟩
 simp only [List.drop_succ_cons,List.drop_zero]
 simp only [f22,zr,qf,B0,reduceIte,reduceEqDiff]
 simp only [qn (g:=29),B0,reduceIte,reduceEqDiff]
 refine jf (t:=((decide ((List.length x7.In:Int)≠(List.length v_0.Amounts:Int)))||(decide ((List.length x7.Closed:Int) ≠
   (List.length v_0.Amounts:Int))))) (fun hg27=>?_) (fun hg27=>?_)
 ·rw [iteT hg27] at hF9
  simp only [hg27,qn (g:=29),kr,z8,qf,zp,zr,qn (g:=35),qn (g:=39),qc7,qn (g:=45),
    qn (g:=53),qs,zc,qfs,qd,qc,qe,qa,qz,B0,reduceIte,reduceEqDiff]
  have he:=qk hF9
  subst he
  simp only [zl,B0,reduceIte,reduceEqDiff]
  exact rfl
 rw [iteF hg27] at hF9
 simp only [hg27,qn (g:=29),q8,f24,zi,qf,Nat.reduceAdd,Nat.zero_add,Nat.add_zero,qr,ze,B0,reduceIte,reduceEqDiff]
 refine qm (v := .int .i64 x7.Amount) rfl ?_
 simp only [hg27,qn (g:=29),q8,wu,B0,reduceIte,reduceEqDiff]
 refine qfp rfl (qj qq (qj qq (qj qq q9))) (uq (fun b hb=>decide_eq_true hb) x7.Amount 0 1000 _ rfl) ?_
 simp only [hg27,qn (g:=29),q8,qdv,qf,kf,z8,zq,zr,B0,reduceIte,reduceEqDiff]
 refine wo 9 (fun fr' h'=>Sep h' (geL h.length) ([])∧fr' 44 = .bool ((!(ja x7.Amount 0 1000))||((!x7.Taken)&&(decide
   (x7.Amount≠0))))∧fr' 1 = .int .i64 v_1∧fr' 5 = .ref [.bool x7.Taken,.int .i64 x7.Amount,lst cI x7.In,lst cB x7.Closed] 0) rfl (fun Q28 hN29=>?_) ?_
 ·simp only [List.take_succ_cons,List.take_zero]
  simp only [qn (g:=35),B0,reduceIte,reduceEqDiff]
  refine jf (t:=(!(ja x7.Amount 0 1000))) (fun hg30=>?_) (fun hg30=>?_)
  ·simp only [hg30,qn (g:=35),kr,qn (g:=39),qc7,z8,qf,zp,qs,qo,B0,reduceIte,reduceEqDiff]
   exact hN29 _ _ ⟨hS26,by rw [orT hg30]; simp only [B0,reduceIte,reduceEqDiff],f23,f24⟩
  ·simp only [hg30,qn (g:=35),q8,f24,zi,qf,Nat.reduceAdd,Nat.zero_add,Nat.add_zero,qr,ze,B0,reduceIte,reduceEqDiff]
   refine qm (v := .bool x7.Taken) rfl ?_
   simp only [hg30,qn (g:=35),q8,qdv,qf,kf,zr,B0,reduceIte,reduceEqDiff]
   refine wo 4 (fun fr' h'=>Sep h' (geL h.length) ([])∧fr' 43 = .bool ((!x7.Taken)&&(decide (x7.Amount≠0)))∧fr' 1 = .int .i64 v_1∧fr' 5 = .ref [.bool x7.Taken,
     .int .i64 x7.Amount,lst cI x7.In,lst cB x7.Closed] 0∧fr' 35 = .bool (!(ja x7.Amount 0 1000))) rfl (fun Q31 hN32=>?_) ?_
   ·simp only [List.take_succ_cons,List.take_zero]
    simp only [qn (g:=39),B0,reduceIte,reduceEqDiff]
    refine jf (t:=(!x7.Taken)) (fun hg33=>?_) (fun hg33=>?_)
    ·simp only [hg33,qn (g:=39),z9,f24,zi,qf,Nat.reduceAdd,Nat.zero_add,Nat.add_zero,qr,ze,B0,reduceIte,reduceEqDiff]
     refine qm (v := .int .i64 x7.Amount) rfl ?_
     simp only [hg33,qn (g:=39),z9,kn,qf,ws,hg30,qn (g:=35),q8,z8,zp,qs,qo,B0,
       reduceIte,reduceEqDiff]
     exact hN32 _ _ ⟨hS26,by rw [qb5 hg33]; simp only [B0,reduceIte,reduceEqDiff],f23,f24,by simp only [hg30,B0,reduceIte,reduceEqDiff]⟩
    ·simp only [hg33,qn (g:=39),ud,hg30,qn (g:=35),q8,z8,qf,zq,qs,qo,B0,reduceIte,
      reduceEqDiff]
     exact hN32 _ _ ⟨hS26,by rw [qb4 hg33]; simp only [B0,reduceIte,reduceEqDiff],f23,f24,by simp only [hg30,B0,reduceIte,reduceEqDiff]⟩
   rintro fr34 h39 ⟨hS40,f35,f36,f37,f38⟩
   simp only [List.drop_succ_cons,List.drop_zero]
   simp only [f38,hg30,z8,qf,zq,f35,qs,qo,B0,reduceIte,reduceEqDiff]
   exact hN29 _ _ ⟨hS40,by rw [orF hg30]; simp only [B0,reduceIte,reduceEqDiff],f36,f37⟩
 rintro fr41 h45 ⟨hS46,f42,f43,f44⟩
 simp only [List.drop_succ_cons,List.drop_zero]
 simp only [f42,zr,qf,B0,reduceIte,reduceEqDiff]
 obtain ⟨v50,hx51,hF52⟩:=qg hF9
 refine wo 7 (fun fr' h'=>Sep h' (geL h.length) ([])∧fr' 52 = .bool v50∧fr' 1 = .int .i64 v_1∧fr' 5 = .ref [.bool x7.Taken,.int .i64 x7.Amount,lst cI x7.In,
   lst cB x7.Closed] 0) rfl (fun Q47 hN48=>?_) ?_
 ·simp only [List.take_succ_cons,List.take_zero]
  simp only [qn (g:=45),B0,reduceIte,reduceEqDiff]
  refine jf (t:=((!(ja x7.Amount 0 1000))||((!x7.Taken)&&(decide (x7.Amount≠0))))) (fun hg49=>?_) (fun hg49=>?_)
  ·rw [iteT hg49] at hx51
   simp only [hg49,qn (g:=45),kr,z8,qf,zp,qs,qo,B0,reduceIte,reduceEqDiff]
   have e53:=qk hx51
   exact hN48 _ _ ⟨hS46,by rw [←e53]; simp only [B0,reduceIte,reduceEqDiff],f43,f44⟩
  ·rw [iteF hg49] at hx51
   simp only [hg49,qn (g:=45),q8,f44,zi,qf,Nat.reduceAdd,Nat.zero_add,Nat.add_zero,qr,ze,B0,reduceIte,reduceEqDiff]
   refine qm (v:=lst cI x7.In) rfl ?_
   obtain ⟨x54,hx55,hF56⟩:=qg hx51
   simp only [hg49,qn (g:=45),q8,f43,zr,qf,jo,B0,reduceIte,reduceEqDiff]
   refine qm (v := .ref (cI x54) 0) (k5 hx55 rfl) ?_
   simp only [hg49,qn (g:=45),q8,ze,B0,reduceIte,reduceEqDiff]
   refine qm (v := .int .i64 x54) rfl ?_
   simp only [hg49,qn (g:=45),q8,kn,qf,ws,z8,zq,qs,qo,B0,reduceIte,reduceEqDiff]
   have e57:=qk hF56
   exact hN48 _ _ ⟨hS46,by rw [←e57]; simp only [B0,reduceIte,reduceEqDiff],f43,f44⟩
 rintro fr58 h62 ⟨hS63,f59,f60,f61⟩
 simp only [List.drop_succ_cons,List.drop_zero]
 simp only [f59,zr,qf,B0,reduceIte,reduceEqDiff]
 obtain ⟨v67,hx68,hF69⟩:=qg hF52
 refine wo 9 (fun fr' h'=>Sep h' (geL h.length) ([])∧fr' 62 = .bool v67∧fr' 5 = .ref [.bool x7.Taken,.int .i64 x7.Amount,lst cI x7.In,
   lst cB x7.Closed] 0) rfl (fun Q64 hN65=>?_) ?_
 ·simp only [List.take_succ_cons,List.take_zero]
  simp only [qn (g:=53),B0,reduceIte,reduceEqDiff]
  refine jf (t:=v50) (fun hg66=>?_) (fun hg66=>?_)
  ·rw [iteT hg66] at hx68
   simp only [hg66,qn (g:=53),kr,z8,qf,zp,qs,qo,B0,reduceIte,reduceEqDiff]
   have e70:=qk hx68
   exact hN65 _ _ ⟨hS63,by rw [←e70]; simp only [B0,reduceIte,reduceEqDiff],f61⟩
  ·rw [iteF hg66] at hx68
   simp only [hg66,qn (g:=53),q8,f61,zi,qf,Nat.reduceAdd,Nat.zero_add,Nat.add_zero,qr,ze,B0,reduceIte,reduceEqDiff]
   refine qm (v:=lst cB x7.Closed) rfl ?_
   obtain ⟨x71,hx72,hF73⟩:=qg hx68
   simp only [hg66,qn (g:=53),q8,f60,zr,qf,jo,B0,reduceIte,reduceEqDiff]
   refine qm (v := .ref (cB x71) 0) (k5 hx72 rfl) ?_
   simp only [hg66,qn (g:=53),q8,ze,B0,reduceIte,reduceEqDiff]
   refine qm (v := .bool x71) rfl ?_
   simp only [hg66,qn (g:=53),q8,f61,zi,qf,Nat.reduceAdd,Nat.zero_add,Nat.add_zero,qr,ze,B0,reduceIte,reduceEqDiff]
   refine qm (v := .bool x7.Taken) rfl ?_
   simp only [hg66,qn (g:=53),q8,qk4,qf,qiz,z8,zq,qs,qo,B0,reduceIte,reduceEqDiff]
   have e74:=qk hF73
   exact hN65 _ _ ⟨hS63,by rw [←e74]; simp only [B0,reduceIte,reduceEqDiff],f61⟩
 rintro fr75 h78 ⟨hS79,f76,f77⟩
 simp only [List.drop_succ_cons,List.drop_zero]
 simp only [qs,f76,zc,B0,reduceIte,reduceEqDiff]
 refine zb (t:=v67) (fun hc80=>?_) (fun hc80=>?_)
 ·rw [iteT hc80] at hF69
  simp only [qd,qc,qe,qa,qz,B0,reduceIte,reduceEqDiff]
  have he:=qk hF69
  subst he
  simp only [zl,B0,reduceIte,reduceEqDiff]
  exact rfl
 rw [iteF hc80] at hF69
 simp only [zg,qxy,qd,qc,f77,qt,qb,Nat.reduceAdd,Nat.zero_add,Nat.add_zero,qr,qp,B0,reduceIte,reduceEqDiff]
 refine qh (v:=lst cI x7.In) rfl ?_
 simp only [z6,qb,z5,qe,qa,B0,reduceIte,reduceEqDiff]
 obtain ⟨oc83,hX85,hk86⟩:=jp hF69
 simp only [qyx]
 refine ko (σ:=Unit) x7.In (fun i81 x82 _=>qbo x7 i81 x82 ) (fun s fr' h'=>fr' 5 = .ref [.bool x7.Taken,.int .i64 x7.Amount,lst cI x7.In,
   lst cB x7.Closed] 0∧fr' 64=lst cI x7.In∧Sep h' (geL h.length) ([])) hX85 ⟨f77,rfl,hS79⟩ (by simp only [B0,reduceIte,reduceEqDiff]) (by simp only [B0,reduceIte,
   reduceEqDiff]) (fun _ _ _ h=>h) rfl rfl (fun _ _ _ _ h=>h) (fun _ _ _ _ h=>h) (fun _ _ _ _ h=>h) (by decide) ?_ ?_
 ·rintro i81 x82 _ fr95 h96 hx100 ⟨f98,f99,hS97⟩ f101 f102 oc84 hF87 hr88 Q89 hN90 hB94 hK91 hR92 hE93
  unfold qbo at hF87
  simp only [q02,qd,qc,f101,qe,f99,jg,B0,reduceIte,reduceEqDiff]
  refine qh (v := .ref (cI x82) 0) (kp hx100 rfl) ?_
  simp only [qp,B0,reduceIte,reduceEqDiff]
  refine qh (v := .int .i64 x82) rfl ?_
  simp only [qe,qa,qyp,qd,qc,zd,B0,reduceIte,reduceEqDiff]
  refine j5 rfl (qj qq (qj qq (qj qq q9))) (uq (fun b hb=>decide_eq_true hb) x82 0 1000000 _ rfl) ?_
  simp only [jz,qb,kf,qe,B0,reduceIte,reduceEqDiff]
  obtain ⟨v106,hx107,hF108⟩:=qg hF87
  refine j0 15 (fun fr' h'=>Sep h' (geL h.length) ([])∧fr' 89 = .bool v106∧fr' 5 = .ref [.bool x7.Taken,.int .i64 x7.Amount,lst cI x7.In,
    lst cB x7.Closed] 0∧fr' 64=lst cI x7.In∧fr' 65 = .int .i64 (List.length x7.In:Int)∧fr' 66 = .int .i64 (i81:Int)) (fun Q103 hN104=>?_) ?_
  ·simp only [List.take_succ_cons,List.take_zero]
   simp only [ql (g:=74),B0,reduceIte,reduceEqDiff]
   refine zn (t:=(!(ja x82 0 1000000))) (fun hg105=>?_) (fun hg105=>?_)
   ·rw [iteT hg105] at hx107
    simp only [hg105,ql (g:=74),jm,ql (g:=78),qhh,ql (g:=81),za,qb,zp,qa,qo,B0,reduceIte,
      reduceEqDiff]
    have e109:=qk hx107
    exact hN104 _ _ ⟨hS97,by rw [←e109]; simp only [B0,reduceIte,reduceEqDiff],f98,f99,f102,f101⟩
   ·rw [iteF hg105] at hx107
    simp only [hg105,ql (g:=74),qv,f98,qt,qb,Nat.reduceAdd,Nat.zero_add,Nat.add_zero,qr,qp,B0,reduceIte,reduceEqDiff]
    refine qh (v := .bool x7.Taken) rfl ?_
    simp only [hg105,ql (g:=74),qv,jz,qb,kf,qe,B0,reduceIte,reduceEqDiff]
    obtain ⟨v113,hx114,hF115⟩:=qg hx107
    refine j0 10 (fun fr' h'=>Sep h' (geL h.length) ([])∧fr' 88 = .bool v113∧fr' 5 = .ref [.bool x7.Taken,.int .i64 x7.Amount,lst cI x7.In,
      lst cB x7.Closed] 0∧fr' 64=lst cI x7.In∧fr' 65 = .int .i64 (List.length x7.In:Int)∧fr' 66 = .int .i64 (i81:Int)∧fr' 74 = .bool
      (!(ja x82 0 1000000))) (fun Q110 hN111=>?_) ?_
    ·simp only [List.take_succ_cons,List.take_zero]
     simp only [ql (g:=78),B0,reduceIte,reduceEqDiff]
     refine zn (t:=(!x7.Taken)) (fun hg112=>?_) (fun hg112=>?_)
     ·rw [iteT hg112] at hx114
      simp only [hg112,ql (g:=78),z4,qe,zf,qb,ws,B0,reduceIte,reduceEqDiff]
      obtain ⟨v119,hx120,hF121⟩:=qg hx114
      refine j0 6 (fun fr' h'=>Sep h' (geL h.length) ([])∧fr' 87 = .bool v119∧fr' 5 = .ref [.bool x7.Taken,.int .i64 x7.Amount,lst cI x7.In,
        lst cB x7.Closed] 0∧fr' 64=lst cI x7.In∧fr' 65 = .int .i64 (List.length x7.In:Int)∧fr' 66 = .int .i64 (i81:Int)∧fr' 74 = .bool
        (!(ja x82 0 1000000))∧fr' 78 = .bool (!x7.Taken)) (fun Q116 hN117=>?_) ?_
      ·simp only [List.take_succ_cons,List.take_zero]
       simp only [ql (g:=81),B0,reduceIte,reduceEqDiff]
       refine zn (t:=(decide (x82≠0))) (fun hg118=>?_) (fun hg118=>?_)
       ·rw [iteT hg118] at hx120
        simp only [hg118,ql (g:=81),jm,hg112,ql (g:=78),z4,za,qb,zp,qa,qo,B0,reduceIte,
          reduceEqDiff]
        have e122:=qk hx120
        exact hN117 _ _ ⟨hS97,by rw [←e122]; simp only [B0,reduceIte,reduceEqDiff],f98,f99,f102,f101,by simp only [hg105,B0,reduceIte,reduceEqDiff],
          by simp only [hg112,B0,reduceIte,reduceEqDiff]⟩
       ·rw [iteF hg118] at hx120
        simp only [hg118,ql (g:=81),qv,f98,qt,qb,Nat.reduceAdd,Nat.zero_add,Nat.add_zero,qr,qp,B0,reduceIte,reduceEqDiff]
        refine qh (v:=lst cB x7.Closed) rfl ?_
        obtain ⟨x123,hx124,hF125⟩:=qg hx120
        simp only [hg118,ql (g:=81),qv,qe,jg,B0,reduceIte,reduceEqDiff]
        refine qh (v := .ref (cB x123) 0) (k5 hx124 rfl) ?_
        simp only [hg118,ql (g:=81),qv,qp,B0,reduceIte,reduceEqDiff]
        refine qh (v := .bool x123) rfl ?_
        simp only [hg112,ql (g:=78),z4,hg118,za,qb,zq,qa,qo,B0,reduceIte,reduceEqDiff]
        have e126:=qk hF125
        exact hN117 _ _ ⟨hS97,by rw [←e126]; simp only [B0,reduceIte,reduceEqDiff],f98,f99,f102,f101,by simp only [hg105,B0,reduceIte,reduceEqDiff],
          by simp only [hg112,B0,reduceIte,reduceEqDiff]⟩
      rintro fr127 h135 ⟨hS136,f128,f129,f130,f131,f132,f133,f134⟩
      simp only [List.drop_succ_cons,List.drop_zero]
      simp only [f133,hg105,ql (g:=74),qv,f134,hg112,za,qb,zp,f128,qa,qo,B0,reduceIte,reduceEqDiff]
      have e137:=qk hF121
      exact hN111 _ _ ⟨hS136,by rw [←e137]; simp only [B0,reduceIte,reduceEqDiff],f129,f130,f131,f132,by simp only [f133,hg105,B0,reduceIte,reduceEqDiff]⟩
     ·rw [iteF hg112] at hx114
      simp only [hg112,ql (g:=78),kw,ql (g:=81),qhh,hg105,ql (g:=74),qv,za,qb,zq,qa,
        qo,B0,reduceIte,reduceEqDiff]
      have e138:=qk hx114
      exact hN111 _ _ ⟨hS97,by rw [←e138]; simp only [B0,reduceIte,reduceEqDiff],f98,f99,f102,f101,by simp only [hg105,B0,reduceIte,reduceEqDiff]⟩
    rintro fr139 h146 ⟨hS147,f140,f141,f142,f143,f144,f145⟩
    simp only [List.drop_succ_cons,List.drop_zero]
    simp only [f145,hg105,za,qb,zq,f140,qa,qo,B0,reduceIte,reduceEqDiff]
    have e148:=qk hF115
    exact hN104 _ _ ⟨hS147,by rw [←e148]; simp only [B0,reduceIte,reduceEqDiff],f141,f142,f143,f144⟩
  rintro fr149 h155 ⟨hS156,f150,f151,f152,f153,f154⟩
  simp only [List.drop_succ_cons,List.drop_zero]
  simp only [qa,f150,zc,B0,reduceIte,reduceEqDiff]
  refine zb (t:=v106) (fun hc157=>?_) (fun hc157=>?_)
  ·rw [iteT hc157] at hF108
   simp only [qd,qc,qe,qa,qz,B0,reduceIte,reduceEqDiff]
   have e158:=qk hF108
   subst e158
   have ho159:=hr88 _ rfl
   have hk160:=hk86
   rw [ho159] at hk160
   dsimp only [jnO] at hk160
   apply hR92
   have he:=qk hk160
   subst he
   simp only [zl,B0,reduceIte,reduceEqDiff]
   exact rfl
  rw [iteF hc157] at hF108
  simp only [zg,qo,B0,reduceIte,reduceEqDiff]
  have e161:=qk hF108
  exact hN90 _ _ _ e161.symm ⟨f151,f152,hS156⟩ (f154) (f153)
 rintro _ fr163 h164 rfl ⟨f166,f167,hS165⟩
 dsimp only [jnO] at hk86
 unfold qf6 at hk86
 simp only [qd,qc,qe,qa,qz,B0,reduceIte,reduceEqDiff]
 have he:=qk hk86
 subst he
 simp only [zl,B0,reduceIte,reduceEqDiff]
 exact rfl
theorem qls {W:Nat→Bool}{h:Heap} (hW:∀ b,
  (geL h.length) b→W b=true) (c_0:Chan) (r:Int) (hF:qcs c_0=some r) : Ret E W 68 [.agg [.int .i64 c_0.From,.int .i64 c_0.To,
  lst cI c_0.Way]] h (fun v h'=>cut h.length h' E.sz false 9 v=some (.int .i64 r)):=by
 refine Ret.of (fn:=x68) rfl (Run.of ?_)
 unfold qcs at hF
 have zf0:zh [.agg [.int .i64 c_0.From,.int .i64 c_0.To,lst cI c_0.Way]] 0 = .agg [.int .i64 c_0.From,.int .i64 c_0.To,lst cI c_0.Way]:=rfl
 generalize zh [.agg [.int .i64 c_0.From,.int .i64 c_0.To,lst cI c_0.Way]]=fr0 at zf0 ⊢
 have hS:Sep h (geL h.length) []:=Sep.nil h
 simp only [x68,qd,qc,kh,zf0,B0,reduceIte,reduceEqDiff]
 refine jt (cs:=[.int .i64 c_0.From,.int .i64 c_0.To,lst cI c_0.Way]) hS rfl rfl rfl (fun b1 h2 hS3=>?_)
 simp only [qe,qa,B0,reduceIte,reduceEqDiff]
 refine zw hS3 hW (by simp only [B0,reduceIte,reduceEqDiff]) (fun h5 hS6=>?_)
 simp only [zo,q0x,qd,qc,qe,qa,q34,qt,qb,Nat.reduceAdd,Nat.zero_add,Nat.add_zero,qr,qp,B0,reduceIte,
   reduceEqDiff]
 refine qh (v:=lst cI c_0.Way) rfl ?_
 simp only [z6,qb,z5,qe,qa,B0,reduceIte,reduceEqDiff]
 obtain ⟨oc11,hX13,hk14⟩:=jp hF
 simp only [q3n]
 refine ko (σ:=Int) c_0.Way (fun i9 x10 s34=>qa1 i9 x10 s34) (fun s fr' h'=>fr' 3 = .int .i64 s∧fr' 7=lst cI c_0.Way∧Sep h' (geL h.length)
   ([])) hX13 ⟨rfl,rfl,hS6⟩ (by simp only [B0,reduceIte,reduceEqDiff]) (by simp only [B0,reduceIte,
   reduceEqDiff]) (fun _ _ _ h=>h) rfl rfl (fun _ _ _ _ h=>h) (fun _ _ _ _ h=>h) (fun _ _ _ _ h=>h) (by decide) ?_ ?_
 ·rintro i9 x10 s8 fr23 h24 hx28 ⟨f26,f27,hS25⟩ f29 f30 oc12 hF15 hr16 Q17 hN18 hB22 hK19 hR20 hE21
  unfold qa1 at hF15
  simp only [qz1,qd,qc,f27,f29,jg,B0,reduceIte,reduceEqDiff]
  refine qh (v := .ref (cI x10) 0) (kp hx28 rfl) ?_
  simp only [qp,B0,reduceIte,reduceEqDiff]
  refine qh (v := .int .i64 x10) rfl ?_
  simp only [qe,qa,q35,qd,qc,zf,qb,wi,qyd,zc,B0,reduceIte,reduceEqDiff]
  refine zb (t:=(decide (x10=0))) (fun hc31=>?_) (fun hc31=>?_)
  ·rw [iteT hc31] at hF15
   simp only [qc,f26,qe,zf,qb,yz,qa,qo,B0,reduceIte,reduceEqDiff]
   have e32:=qk hF15
   exact hN18 _ _ _ e32.symm ⟨rfl,f27,hS25⟩ (f29) (f30)
  rw [iteF hc31] at hF15
  simp only [zg,qo,B0,reduceIte,reduceEqDiff]
  have e33:=qk hF15
  exact hN18 _ _ _ e33.symm ⟨f26,f27,hS25⟩ (f29) (f30)
 rintro s35 fr36 h37 rfl ⟨f39,f40,hS38⟩
 dsimp only [jnO] at hk14
 unfold qg7 at hk14
 simp only [qd,qc,f39,qe,qa,qz,B0,reduceIte,reduceEqDiff]
 have he:=qk hk14
 subst he
 simp only [zl,B0,reduceIte,reduceEqDiff]
 exact rfl
theorem qh2 {W:Nat→Bool}{h:Heap} (hW:∀ b,
  (geL h.length) b→W b=true) (s_0:Snap) (r:Int) (hF:qbz s_0=some r) : Ret E W 69 [.agg [lst cI s_0.Amounts,lst Chan.cells s_0.Chans,
  lst Picture.cells s_0.Pictures,.int .i64 s_0.Sent,.int .i64 s_0.Total]] h (fun v h'=>cut h.length h' E.sz false 9 v=some (.int .i64 r)):=by
 refine Ret.of (fn:=x69) rfl (Run.of ?_)
 unfold qbz at hF
 have zf0:zh [.agg [lst cI s_0.Amounts,lst Chan.cells s_0.Chans,lst Picture.cells s_0.Pictures,.int .i64 s_0.Sent,.int .i64 s_0.Total]] 0 = .agg [lst cI s_0.Amounts,
   lst Chan.cells s_0.Chans,lst Picture.cells s_0.Pictures,.int .i64 s_0.Sent,.int .i64 s_0.Total]:=rfl
 generalize zh [.agg [lst cI s_0.Amounts,lst Chan.cells s_0.Chans,lst Picture.cells s_0.Pictures,.int .i64 s_0.Sent,.int .i64 s_0.Total]]=fr0 at zf0 ⊢
 have hS:Sep h (geL h.length) []:=Sep.nil h
 simp only [x69,qd,qc,kh,zf0,B0,reduceIte,reduceEqDiff]
 refine jt (cs:=[lst cI s_0.Amounts,lst Chan.cells s_0.Chans,lst Picture.cells s_0.Pictures,.int .i64 s_0.Sent,
   .int .i64 s_0.Total]) hS rfl rfl rfl (fun b1 h2 hS3=>?_)
 simp only [qe,qa,B0,reduceIte,reduceEqDiff]
 refine zw hS3 hW (by simp only [B0,reduceIte,reduceEqDiff]) (fun h5 hS6=>?_)
 simp only [zo,qsd,qd,qc,qe,qa,q01,qt,qb,Nat.reduceAdd,Nat.zero_add,Nat.add_zero,qr,qp,B0,reduceIte,
   reduceEqDiff]
 refine qh (v:=lst Chan.cells s_0.Chans) rfl ?_
 simp only [z6,qb,z5,qe,qa,B0,reduceIte,reduceEqDiff]
 obtain ⟨oc11,hX13,hk14⟩:=jp hF
 simp only [qz9]
 refine ko (σ:=Int) s_0.Chans (fun i9 x10 s79=>qa4 i9 x10 s79) (fun s fr' h'=>fr' 3 = .int .i64 s∧fr' 9=lst Chan.cells s_0.Chans∧Sep h'
   (geL h.length) ([])) hX13 ⟨rfl,rfl,hS6⟩ (by simp only [B0,reduceIte,reduceEqDiff]) (by simp only [B0,reduceIte,
   reduceEqDiff]) (fun _ _ _ h=>h) rfl rfl (fun _ _ _ _ h=>h) (fun _ _ _ _ h=>h) (fun _ _ _ _ h=>h) (by decide) ?_ ?_
 ·rintro i9 x10 s8 fr23 h24 hx28 ⟨f26,f27,hS25⟩ f29 f30 oc12 hF15 hr16 Q17 hN18 hB22 hK19 hR20 hE21
  unfold qa4 at hF15
  simp only [qzo,qd,qc,f27,f29,jg,B0,reduceIte,reduceEqDiff]
  refine qh (v := .ref (Chan.cells x10) 0) (kp hx28 rfl) ?_
  simp only [qp,B0,reduceIte,reduceEqDiff]
  refine qh (v := .agg [.int .i64 x10.From,.int .i64 x10.To,lst cI x10.Way]) rfl ?_
  simp only [jb,B0,reduceIte,reduceEqDiff]
  refine zv hS25 (fun b31 h32 hS33=>?_)
  simp only [zj,B0,reduceIte,reduceEqDiff]
  refine qx (us:=[.int .i64 x10.From,.int .i64 x10.To,lst cI x10.Way]) rfl (cs':=[.int .i64 x10.From,.int .i64 x10.To,
    lst cI x10.Way]) hS33 hW rfl rfl (Nat.le_of_ble_eq_true rfl) rfl (fun h35 hS36=>?_)
  simp only [qa,B0,reduceIte,reduceEqDiff]
  refine zw hS36 hW (by simp only [B0,reduceIte,reduceEqDiff]) (fun h37 hS38=>?_)
  simp only [zo,q5e,qd,qc,qt,qb,Nat.reduceAdd,Nat.zero_add,Nat.add_zero,qr,qp,B0,reduceIte,reduceEqDiff]
  refine qh (v:=lst cI x10.Way) rfl ?_
  simp only [z6,qb,z5,qe,qa,B0,reduceIte,reduceEqDiff]
  obtain ⟨oc43,hX45,hk46⟩:=jp hF15
  simp only [q4v]
  refine ko (σ:=Int) x10.Way (fun i41 x42 s67=>qa0 i41 x42 s67)
    (fun s fr' h'=>fr' 3 = .int .i64 s∧fr' 9=lst Chan.cells s_0.Chans∧fr' 10 = .int .i64 (List.length s_0.Chans:Int)∧fr' 11 = .int .i64
    (i9:Int)∧fr' 16=lst cI x10.Way∧Sep h' (geL h.length) ([])) hX45 ⟨f26,f27,f30,f29,rfl,hS38⟩ (by simp only [B0,reduceIte,reduceEqDiff]) (by simp only [B0,
    reduceIte,reduceEqDiff]) (fun _ _ _ h=>h) rfl rfl (fun _ _ _ _ h=>h) (fun _ _ _ _ h=>h) (fun _ _ _ _ h=>h) (by decide) ?_ ?_
  ·rintro i41 x42 s40 fr55 h56 hx63 ⟨f58,f59,f60,f61,f62,hS57⟩ f64 f65 oc44 hF47 hr48 Q49 hN50 hB54 hK51 hR52 hE53
   unfold qa0 at hF47
   simp only [q03,qd,qc,f62,f64,jg,B0,reduceIte,reduceEqDiff]
   refine qh (v := .ref (cI x42) 0) (kp hx63 rfl) ?_
   simp only [qp,B0,reduceIte,reduceEqDiff]
   refine qh (v := .int .i64 x42) rfl ?_
   simp only [qe,qa,q0e,qc,f58,zf,qb,yz,qo,B0,reduceIte,reduceEqDiff]
   have e66:=qk hF47
   exact hN50 _ _ _ e66.symm ⟨rfl,f59,f60,f61,f62,hS57⟩ (f64) (f65)
  rintro s68 fr69 h70 rfl ⟨f72,f73,f74,f75,f76,hS71⟩
  dsimp only [jnO] at hk46
  unfold qhl at hk46
  simp only [qo,B0,reduceIte,reduceEqDiff]
  have e77:=qk hk46
  exact hN18 _ _ _ e77.symm ⟨f72,f73,hS71⟩ (f75) (f74)
 rintro s80 fr81 h82 rfl ⟨f84,f85,hS83⟩
 dsimp only [jnO] at hk14
 unfold qhi at hk14
 simp only [qd,qc,f84,qe,qa,qz,B0,reduceIte,reduceEqDiff]
 have he:=qk hk14
 subst he
 simp only [zl,B0,reduceIte,reduceEqDiff]
 exact rfl
end Go.Proofs.Ytpkiieniipenjaa.X
namespace Go.Proofs.Ytpkiieniipenjaa.X
open Go
open Nat (reduceEqDiff)
theorem qay {W:Nat→Bool}{h:Heap} (hW:∀ b,
  (geL h.length) b→W b=true) (k:Nat) (v_0:Snap) (r:Bool) (hF:wc k v_0=some r) : Ret E W 28 [.agg [lst cI v_0.Amounts,lst Chan.cells v_0.Chans,
  lst Picture.cells v_0.Pictures,.int .i64 v_0.Sent,.int .i64 v_0.Total]] h (fun v h'=>cut h.length h' E.sz false 9 v=some (.bool r)):=by
 refine Ret.of (fn:=x28) rfl (Run.of ?_)
 unfold wc at hF
 have zf0:zh [.agg [lst cI v_0.Amounts,lst Chan.cells v_0.Chans,lst Picture.cells v_0.Pictures,.int .i64 v_0.Sent,.int .i64 v_0.Total]] 0 = .agg [lst cI v_0.Amounts,
   lst Chan.cells v_0.Chans,lst Picture.cells v_0.Pictures,.int .i64 v_0.Sent,.int .i64 v_0.Total]:=rfl
 generalize zh [.agg [lst cI v_0.Amounts,lst Chan.cells v_0.Chans,lst Picture.cells v_0.Pictures,.int .i64 v_0.Sent,.int .i64 v_0.Total]]=fr0 at zf0 ⊢
 have hS:Sep h (geL h.length) []:=Sep.nil h
 simp only [x28,qd,qc,kh,zf0,B0,reduceIte,reduceEqDiff]
 refine jt (cs:=[lst cI v_0.Amounts,lst Chan.cells v_0.Chans,lst Picture.cells v_0.Pictures,.int .i64 v_0.Sent,
   .int .i64 v_0.Total]) hS rfl rfl rfl (fun b1 h2 hS3=>?_)
 simp only [qe,qa,B0,reduceIte,reduceEqDiff]
 refine zw hS3 hW (by simp only [B0,reduceIte,reduceEqDiff]) (fun h5 hS6=>?_)
 simp only [zo,quw,qd,qc,qt,qb,Nat.reduceAdd,Nat.zero_add,Nat.add_zero,qr,qp,B0,reduceIte,reduceEqDiff]
 refine qh (v:=lst cI v_0.Amounts) rfl ?_
 obtain ⟨v7,hx8,hF9⟩:=qg hF
 simp only [z6,qb,z5,qe,qa,qvx,qd,qc,zd,B0,reduceIte,reduceEqDiff]
 refine ut rfl hS6 (qj qq q9) (qhx (fun b hb=>decide_eq_true hb) k (List.length v_0.Amounts:Int) v7 hx8) ?_
 rintro v10 h14 ⟨_,c11,rfl,hv12,hS15⟩
 refine ⟨_,qtf (SlN.free1 hv12),hS15,(jc (SlN.pf hv12 Chan.RO) wt),fun h16 hS17=>?_⟩
 have hS18:Sep h16 (geL h.length) (c11++([])):=by simpa only [List.append_assoc,List.nil_append] using hS17
 simp only [qe,qa,qvc,qd,qc,zd,B0,reduceIte,reduceEqDiff]
 refine j5 rfl (qj qq (qj qq (qj qq q9))) (uq (fun b hb=>decide_eq_true hb) (List.length v_0.Amounts:Int) 2 4 _ rfl) ?_
 simp only [jz,qb,kf,qe,B0,reduceIte,reduceEqDiff]
 refine j0 6 (fun fr' h'=>Sep h' (geL h.length) (c11++([]))∧fr' 27 = .bool ((!(ja (List.length v_0.Amounts:Int) 2 4))||(decide
   ((List.length v_0.Pictures:Int)≠(List.length v_0.Amounts:Int))))∧fr' 1 = .ref [lst cI v_0.Amounts,lst Chan.cells v_0.Chans,lst Picture.cells v_0.Pictures,
   .int .i64 v_0.Sent,.int .i64 v_0.Total] 0∧fr' 4=v10) (fun Q19 hN20=>?_) ?_
 ·simp only [List.take_succ_cons,List.take_zero]
  simp only [ql (g:=21),B0,reduceIte,reduceEqDiff]
  refine zn (t:=(!(ja (List.length v_0.Amounts:Int) 2 4))) (fun hg21=>?_) (fun hg21=>?_)
  ·simp only [hg21,ql (g:=21),jm,za,qb,zp,qa,qo,B0,reduceIte,reduceEqDiff]
   exact hN20 _ _ ⟨hS18,by rw [orT hg21]; simp only [B0,reduceIte,reduceEqDiff],rfl,rfl⟩
  ·simp only [hg21,ql (g:=21),qv,qt,qb,Nat.reduceAdd,Nat.zero_add,Nat.add_zero,qr,qp,B0,reduceIte,reduceEqDiff]
   refine qh (v:=lst Picture.cells v_0.Pictures) rfl ?_
   simp only [hg21,ql (g:=21),qv,z6,qb,z5,qe,zf,ws,za,zq,qa,qo,B0,reduceIte,reduceEqDiff]
   exact hN20 _ _ ⟨hS18,by rw [orF hg21]; simp only [B0,reduceIte,reduceEqDiff],rfl,rfl⟩
 rintro fr22 h26 ⟨hS27,f23,f24,f25⟩
 simp only [List.drop_succ_cons,List.drop_zero]
 simp only [f23,qe,B0,reduceIte,reduceEqDiff]
 refine j0 7 (fun fr' h'=>Sep h' (geL h.length) (c11++([]))∧fr' 35 = .bool (((!(ja (List.length v_0.Amounts:Int) 2 4))||(decide
   ((List.length v_0.Pictures:Int)≠(List.length v_0.Amounts:Int))))||(decide ((List.length v_0.Chans:Int) ≠
   (List.length v7:Int))))∧fr' 1 = .ref [lst cI v_0.Amounts,lst Chan.cells v_0.Chans,lst Picture.cells v_0.Pictures,.int .i64 v_0.Sent,
   .int .i64 v_0.Total] 0∧fr' 4=v10) (fun Q28 hN29=>?_) ?_
 ·simp only [List.take_succ_cons,List.take_zero]
  simp only [ql (g:=28),B0,reduceIte,reduceEqDiff]
  refine zn (t:=((!(ja (List.length v_0.Amounts:Int) 2 4))||(decide ((List.length v_0.Pictures:Int)≠(List.length v_0.Amounts:Int)))))
    (fun hg30=>?_) (fun hg30=>?_)
  ·simp only [hg30,ql (g:=28),jm,za,qb,zp,qa,qo,B0,reduceIte,reduceEqDiff]
   exact hN29 _ _ ⟨hS27,by rw [orT hg30]; simp only [B0,reduceIte,reduceEqDiff],f24,f25⟩
  ·simp only [hg30,ql (g:=28),qv,f24,qt,qb,Nat.reduceAdd,Nat.zero_add,Nat.add_zero,qr,qp,B0,reduceIte,reduceEqDiff]
   refine qh (v:=lst Chan.cells v_0.Chans) rfl ?_
   simp only [hg30,ql (g:=28),qv,z6,qb,z5,f25,qe,SlN.len hv12,zf,ws,za,zq,qa,qo,B0,
     reduceIte,reduceEqDiff]
   exact hN29 _ _ ⟨hS27,by rw [orF hg30]; simp only [B0,reduceIte,reduceEqDiff],f24,f25⟩
 rintro fr31 h35 ⟨hS36,f32,f33,f34⟩
 simp only [List.drop_succ_cons,List.drop_zero]
 simp only [f32,qe,B0,reduceIte,reduceEqDiff]
 refine j0 5 (fun fr' h'=>Sep h' (geL h.length) (c11++([]))∧fr' 41 = .bool ((((!(ja (List.length v_0.Amounts:Int) 2 4))||(decide
   ((List.length v_0.Pictures:Int)≠(List.length v_0.Amounts:Int))))||(decide ((List.length v_0.Chans:Int)≠(List.length v7:Int)))) ||
   (!(ja v_0.Sent 0 1000)))∧fr' 1 = .ref [lst cI v_0.Amounts,lst Chan.cells v_0.Chans,lst Picture.cells v_0.Pictures,.int .i64 v_0.Sent,
   .int .i64 v_0.Total] 0∧fr' 4=v10) (fun Q37 hN38=>?_) ?_
 ·simp only [List.take_succ_cons,List.take_zero]
  simp only [ql (g:=36),B0,reduceIte,reduceEqDiff]
  refine zn (t:=(((!(ja (List.length v_0.Amounts:Int) 2 4))||(decide ((List.length v_0.Pictures:Int)≠(List.length v_0.Amounts:Int))))||(decide
    ((List.length v_0.Chans:Int)≠(List.length v7:Int))))) (fun hg39=>?_) (fun hg39=>?_)
  ·simp only [hg39,ql (g:=36),jm,za,qb,zp,qa,qo,B0,reduceIte,reduceEqDiff]
   exact hN38 _ _ ⟨hS36,by rw [orT hg39]; simp only [B0,reduceIte,reduceEqDiff],f33,f34⟩
  ·simp only [hg39,ql (g:=36),qv,f33,qt,qb,Nat.reduceAdd,Nat.zero_add,Nat.add_zero,qr,qp,B0,reduceIte,reduceEqDiff]
   refine qh (v := .int .i64 v_0.Sent) rfl ?_
   simp only [hg39,ql (g:=36),qv,zd,B0,reduceIte,reduceEqDiff]
   refine j5 rfl (qj qq (qj qq (qj qq q9))) (uq (fun b hb=>decide_eq_true hb) v_0.Sent 0 1000 _ rfl) ?_
   simp only [hg39,ql (g:=36),qv,jz,qb,kf,za,zq,qa,qo,B0,reduceIte,reduceEqDiff]
   exact hN38 _ _ ⟨hS36,by rw [orF hg39]; simp only [B0,reduceIte,reduceEqDiff],f33,f34⟩
 rintro fr40 h44 ⟨hS45,f41,f42,f43⟩
 simp only [List.drop_succ_cons,List.drop_zero]
 simp only [qa,f41,zc,B0,reduceIte,reduceEqDiff]
 refine zb (t:=((((!(ja (List.length v_0.Amounts:Int) 2 4))||(decide ((List.length v_0.Pictures:Int)≠(List.length v_0.Amounts:Int))))||(decide
   ((List.length v_0.Chans:Int)≠(List.length v7:Int))))||(!(ja v_0.Sent 0 1000)))) (fun hc46=>?_) (fun hc46=>?_)
 ·rw [iteT hc46] at hF9
  simp only [qd,qc,qe,qa,qz,B0,reduceIte,reduceEqDiff]
  have he:=qk hF9
  subst he
  simp only [zl,B0,reduceIte,reduceEqDiff]
  exact rfl
 rw [iteF hc46] at hF9
 simp only [zg,qsu,qd,qc,qe,qa,qva,f42,qt,qb,Nat.reduceAdd,Nat.zero_add,Nat.add_zero,qr,qp,B0,reduceIte,
   reduceEqDiff]
 refine qh (v:=lst cI v_0.Amounts) rfl ?_
 simp only [z6,qb,z5,qe,qa,B0,reduceIte,reduceEqDiff]
 obtain ⟨oc51,hX53,hk54⟩:=jp hF9
 simp only [qza]
 refine ko (σ:=Int) v_0.Amounts (fun i49 x50 s100=>qan v_0 i49 x50 s100) (fun s fr' h'=>fr' 1 = .ref [lst cI v_0.Amounts,lst Chan.cells v_0.Chans,
   lst Picture.cells v_0.Pictures,.int .i64 v_0.Sent,
   .int .i64 v_0.Total] 0∧fr' 4=v10∧fr' 5 = .int .i64 s∧fr' 43=lst cI v_0.Amounts∧Sep h' (geL h.length) (c11++([]))) hX53 ⟨f42,f43,rfl,rfl,
   hS45⟩ (by simp only [B0,reduceIte,reduceEqDiff]) (by simp only [B0,reduceIte,
   reduceEqDiff]) (fun _ _ _ h=>h) rfl rfl (fun _ _ _ _ h=>h) (fun _ _ _ _ h=>h) (fun _ _ _ _ h=>h) (by decide) ?_ ?_
 ·rintro i49 x50 s48 fr63 h64 hx70 ⟨f66,f67,f68,f69,hS65⟩ f71 f72 oc52 hF55 hr56 Q57 hN58 hB62 hK59 hR60 hE61
  unfold qan at hF55
  simp only [q29,qd,qc,f71,qe,f69,jg,B0,reduceIte,reduceEqDiff]
  refine qh (v := .ref (cI x50) 0) (kp hx70 rfl) ?_
  simp only [qp,B0,reduceIte,reduceEqDiff]
  refine qh (v := .int .i64 x50) rfl ?_
  simp only [qe,qa,q05,qd,qc,zd,B0,reduceIte,reduceEqDiff]
  refine j5 rfl (qj qq (qj qq (qj qq q9))) (uq (fun b hb=>decide_eq_true hb) x50 0 1000 _ rfl) ?_
  simp only [jz,qb,kf,qe,B0,reduceIte,reduceEqDiff]
  obtain ⟨v76,hx77,hF78⟩:=qg hF55
  refine j0 5 (fun fr' h'=>Sep h' (geL h.length) (c11++([]))∧fr' 58 = .bool v76∧fr' 1 = .ref [lst cI v_0.Amounts,lst Chan.cells v_0.Chans,
    lst Picture.cells v_0.Pictures,.int .i64 v_0.Sent,
    .int .i64 v_0.Total] 0∧fr' 4=v10∧fr' 5 = .int .i64 s48∧fr' 7 = .int .i64 x50∧fr' 43=lst cI v_0.Amounts∧fr' 44 = .int .i64
    (List.length v_0.Amounts:Int)∧fr' 45 = .int .i64 (i49:Int)) (fun Q73 hN74=>?_) ?_
  ·simp only [List.take_succ_cons,List.take_zero]
   simp only [ql (g:=53),B0,reduceIte,reduceEqDiff]
   refine zn (t:=(!(ja x50 0 1000))) (fun hg75=>?_) (fun hg75=>?_)
   ·rw [iteT hg75] at hx77
    simp only [hg75,ql (g:=53),jm,za,qb,zp,qa,qo,B0,reduceIte,reduceEqDiff]
    have e79:=qk hx77
    exact hN74 _ _ ⟨hS65,by rw [←e79]; simp only [B0,reduceIte,reduceEqDiff],f66,f67,f68,rfl,f69,f72,f71⟩
   ·rw [iteF hg75] at hx77
    simp only [hg75,ql (g:=53),qv,f66,qp,B0,reduceIte,reduceEqDiff]
    refine qh (v := .agg [lst cI v_0.Amounts,lst Chan.cells v_0.Chans,lst Picture.cells v_0.Pictures,.int .i64 v_0.Sent,.int .i64 v_0.Total]) rfl ?_
    obtain ⟨v80,hx81,hF82⟩:=qg hx77
    simp only [hg75,ql (g:=53),qv,qe,zd,B0,reduceIte,reduceEqDiff]
    refine j5 rfl (qj (ji (qj zm (qj zm (qj zm (qj qq (qj qq q9)))))) (qj qq q9)) (qj9
      (fun b hb=>decide_eq_true hb) v_0 (i49:Int) v80 hx81) ?_
    simp only [hg75,ql (g:=53),qv,jz,qb,kf,za,zq,qa,qo,B0,reduceIte,reduceEqDiff]
    have e83:=qk hF82
    exact hN74 _ _ ⟨hS65,by rw [←e83]; simp only [B0,reduceIte,reduceEqDiff],f66,f67,f68,rfl,f69,f72,f71⟩
  rintro fr84 h93 ⟨hS94,f85,f86,f87,f88,f89,f90,f91,f92⟩
  simp only [List.drop_succ_cons,List.drop_zero]
  simp only [qa,f85,zc,B0,reduceIte,reduceEqDiff]
  refine zb (t:=v76) (fun hc95=>?_) (fun hc95=>?_)
  ·rw [iteT hc95] at hF78
   simp only [qd,qc,qe,qa,qz,B0,reduceIte,reduceEqDiff]
   have e96:=qk hF78
   subst e96
   have ho97:=hr56 _ rfl
   have hk98:=hk54
   rw [ho97] at hk98
   dsimp only [jnO] at hk98
   apply hR60
   have he:=qk hk98
   subst he
   simp only [zl,B0,reduceIte,reduceEqDiff]
   exact rfl
  rw [iteF hc95] at hF78
  simp only [zg,q3p,qc,f88,qe,f89,zf,qb,yz,qa,qo,B0,reduceIte,reduceEqDiff]
  have e99:=qk hF78
  exact hN58 _ _ _ e99.symm ⟨f86,f87,rfl,f90,hS94⟩ (f92) (f91)
 rintro s101 fr102 h103 rfl ⟨f105,f106,f107,f108,hS104⟩
 dsimp only [jnO] at hk54
 unfold qb6 at hk54
 simp only [qra,qd,qc,f105,qt,qb,Nat.reduceAdd,Nat.zero_add,Nat.add_zero,qr,qp,B0,reduceIte,reduceEqDiff]
 refine qh (v:=lst Chan.cells v_0.Chans) rfl ?_
 simp only [z6,qb,z5,qe,qa,B0,reduceIte,reduceEqDiff]
 obtain ⟨oc117,hX119,hk120⟩:=jp hk54
 simp only [quq]
 refine ko (σ:=(List Chan)) v_0.Chans (fun i115 x116 s338=>qao v_0 i115 x116 s338) (fun s fr' h'=>∃ c113,fr' 1 = .ref [lst cI v_0.Amounts,
   lst Chan.cells v_0.Chans,lst Picture.cells v_0.Pictures,.int .i64 v_0.Sent,
   .int .i64 v_0.Total] 0∧fr' 4=v10∧fr' 5 = .int .i64 s101∧fr' 64=lst Chan.cells v_0.Chans∧SlN Chan.R 3 74 v10 s c113∧Sep h' (geL h.length) (c113 ++
   ([]))) hX119 ⟨c11,f105,f106,f107,rfl,hv12,hS104⟩ (by simp only [B0,reduceIte,reduceEqDiff]) (by simp only [B0,reduceIte,
   reduceEqDiff]) (fun _ _ _ h=>h) rfl rfl (fun _ _ _ _ h=>h) (fun _ _ _ _ h=>h) (fun _ _ _ _ h=>h) (by decide) ?_ ?_
 ·rintro i115 x116 s112 fr129 h130 hx136 ⟨c113,f132,f133,f134,f135,hv114,hS131⟩ f137 f138 oc118 hF121 hr122 Q123 hN124 hB128 hK125 hR126 hE127
  unfold qao at hF121
  simp only [qu1,qd,qc,f137,qe,f135,jg,B0,reduceIte,reduceEqDiff]
  refine qh (v := .ref (Chan.cells x116) 0) (kp hx136 rfl) ?_
  simp only [qp,B0,reduceIte,reduceEqDiff]
  refine qh (v := .agg [.int .i64 x116.From,.int .i64 x116.To,lst cI x116.Way]) rfl ?_
  simp only [jb,B0,reduceIte,reduceEqDiff]
  refine zv hS131 (fun b139 h140 hS141=>?_)
  simp only [qe,zj,B0,reduceIte,reduceEqDiff]
  refine qx (us:=[.int .i64 x116.From,.int .i64 x116.To,lst cI x116.Way]) rfl (cs':=[.int .i64 x116.From,.int .i64 x116.To,
    lst cI x116.Way]) hS141 hW rfl rfl (Nat.le_of_ble_eq_true rfl) rfl (fun h143 hS144=>?_)
  simp only [qa,B0,reduceIte,reduceEqDiff]
  refine zw hS144 hW (by simp only [B0,reduceIte,reduceEqDiff]) (fun h145 hS146=>?_)
  simp only [zo,qsg,qd,jd,zi,qf,Nat.reduceAdd,Nat.zero_add,Nat.add_zero,qr,ze,B0,reduceIte,reduceEqDiff]
  refine qm (v := .int .i64 x116.From) rfl ?_
  obtain ⟨x147,hx148,hF149⟩:=qg hF121
  simp only [f133,zr,qf,jo,B0,reduceIte,reduceEqDiff]
  obtain ⟨b150,hb151⟩:=SlN.isrow hv114 (jq hx148)
  refine qm (SlN.ia hv114 hb151 hx148) ?_
  obtain ⟨c152,cs153,os154,hv155,hR156,hS157⟩:=SlG.opn (SlN.toG hv114 hb151 Chan.RO.len) hx148 z7 Chan.RO.len hS146
  obtain ⟨v159,c160,hv161,rfl,rfl⟩:=hR156
  have hS158:=Sep.no1 hS157
  simp only [zi,qf,Nat.reduceAdd,Nat.zero_add,Nat.add_zero,qu,ze,B0,reduceIte,reduceEqDiff]
  refine qm (v := .int .i64 x147.From) ((SlG.ld (o:=0) hv155 rfl hx148 hS158 (Nat.le_of_ble_eq_true rfl)).trans rfl) ?_
  simp only [kn,qf,ws,zr,B0,reduceIte,reduceEqDiff]
  refine wo 9 (fun fr' h'=>Sep h' (geL h.length) (c152++(c160++([])))∧fr' 88 = .bool ((decide (x116.From≠x147.From))||(decide
    (x116.To≠x147.To)))∧fr' 1 = .ref [lst cI v_0.Amounts,lst Chan.cells v_0.Chans,lst Picture.cells v_0.Pictures,.int .i64 v_0.Sent,
    .int .i64 v_0.Total] 0∧fr' 4=v10∧fr' 5 = .int .i64 s101∧fr' 9 = .ref [.int .i64 x116.From,.int .i64 x116.To,
    lst cI x116.Way] 0∧fr' 64=lst Chan.cells v_0.Chans∧fr' 65 = .int .i64 (List.length v_0.Chans:Int)∧fr' 66 = .int .i64 (i115:Int)) rfl (fun Q163 hN164=>?_) ?_
  ·simp only [List.take_succ_cons,List.take_zero]
   simp only [qn (g:=79),B0,reduceIte,reduceEqDiff]
   refine jf (t:=(decide (x116.From≠x147.From))) (fun hg165=>?_) (fun hg165=>?_)
   ·simp only [hg165,qn (g:=79),kr,z8,qf,zp,qs,qo,B0,reduceIte,reduceEqDiff]
    exact hN164 _ _ ⟨(Sep.m1 (Sep.m1 hS158)),by rw [orT hg165]; simp only [B0,reduceIte,reduceEqDiff],f132,f133,f134,rfl,f135,f138,f137⟩
   ·simp only [hg165,qn (g:=79),q8,zi,qf,Nat.reduceAdd,Nat.zero_add,Nat.add_zero,qr,ze,B0,reduceIte,reduceEqDiff]
    refine qm (v := .int .i64 x116.To) rfl ?_
    simp only [hg165,qn (g:=79),q8,f133,zr,qf,jo,B0,reduceIte,reduceEqDiff]
    refine qm (SlG.ia hv155 hx148) ?_
    simp only [hg165,qn (g:=79),q8,zi,qf,Nat.reduceAdd,Nat.zero_add,Nat.add_zero,qu,ze,B0,reduceIte,reduceEqDiff]
    refine qm (v := .int .i64 x147.To) ((SlG.ld (o:=1) hv155 rfl hx148 hS158 (Nat.le_of_ble_eq_true rfl)).trans rfl) ?_
    simp only [hg165,qn (g:=79),q8,kn,qf,ws,z8,zq,qs,qo,B0,reduceIte,reduceEqDiff]
    exact hN164 _ _ ⟨(Sep.m1 (Sep.m1 hS158)),by rw [orF hg165]; simp only [B0,reduceIte,reduceEqDiff],f132,f133,f134,rfl,f135,f138,f137⟩
  rintro fr166 h175 ⟨hS176,f167,f168,f169,f170,f171,f172,f173,f174⟩
  simp only [List.drop_succ_cons,List.drop_zero]
  simp only [f167,zr,qf,B0,reduceIte,reduceEqDiff]
  refine wo 5 (fun fr' h'=>Sep h' (geL h.length) (c152++(c160++([])))∧fr' 94 = .bool (((decide (x116.From≠x147.From))||(decide (x116.To≠x147.To)))||(decide
    ((8:Int)<(List.length x116.Way:Int))))∧fr' 1 = .ref [lst cI v_0.Amounts,lst Chan.cells v_0.Chans,lst Picture.cells v_0.Pictures,.int .i64 v_0.Sent,
    .int .i64 v_0.Total] 0∧fr' 4=v10∧fr' 5 = .int .i64 s101∧fr' 9 = .ref [.int .i64 x116.From,.int .i64 x116.To,
    lst cI x116.Way] 0∧fr' 64=lst Chan.cells v_0.Chans∧fr' 65 = .int .i64 (List.length v_0.Chans:Int)∧fr' 66 = .int .i64 (i115:Int)) rfl (fun Q177 hN178=>?_) ?_
  ·simp only [List.take_succ_cons,List.take_zero]
   simp only [qn (g:=89),B0,reduceIte,reduceEqDiff]
   refine jf (t:=((decide (x116.From≠x147.From))||(decide (x116.To≠x147.To)))) (fun hg179=>?_) (fun hg179=>?_)
   ·simp only [hg179,qn (g:=89),kr,z8,qf,zp,qs,qo,B0,reduceIte,reduceEqDiff]
    exact hN178 _ _ ⟨(Sep.m1 (Sep.m1 hS176)),by rw [orT hg179]; simp only [B0,reduceIte,reduceEqDiff],f168,f169,f170,f171,f172,f173,f174⟩
   ·simp only [hg179,qn (g:=89),q8,f171,zi,qf,Nat.reduceAdd,Nat.zero_add,Nat.add_zero,qr,ze,B0,reduceIte,reduceEqDiff]
    refine qm (v:=lst cI x116.Way) rfl ?_
    simp only [hg179,qn (g:=89),q8,qch,qf,z5,kn,qe7,z8,zq,qs,qo,B0,reduceIte,reduceEqDiff]
    exact hN178 _ _ ⟨(Sep.m1 (Sep.m1 hS176)),by rw [orF hg179]; simp only [B0,reduceIte,reduceEqDiff],f168,f169,f170,f171,f172,f173,f174⟩
  rintro fr180 h189 ⟨hS190,f181,f182,f183,f184,f185,f186,f187,f188⟩
  simp only [List.drop_succ_cons,List.drop_zero]
  simp only [qs,f181,zc,B0,reduceIte,reduceEqDiff]
  refine zb (t:=(((decide (x116.From≠x147.From))||(decide (x116.To≠x147.To)))||(decide ((8:Int)<(List.length x116.Way:Int))))) (fun hc191=>?_)
    (fun hc191=>?_)
  ·rw [iteT hc191] at hF149
   simp only [qd,qc,qe,qa,qz,B0,reduceIte,reduceEqDiff]
   have e192:=qk hF149
   subst e192
   have ho193:=hr122 _ rfl
   have hk194:=hk120
   rw [ho193] at hk194
   dsimp only [jnO] at hk194
   apply hR126
   have he:=qk hk194
   subst he
   simp only [zl,B0,reduceIte,reduceEqDiff]
   exact rfl
  rw [iteF hc191] at hF149
  simp only [zg,qqc,qd,qc,f185,qt,qb,Nat.reduceAdd,Nat.zero_add,Nat.add_zero,qr,qp,B0,reduceIte,reduceEqDiff]
  refine qh (v:=lst cI x116.Way) rfl ?_
  simp only [z6,qb,z5,qe,qa,B0,reduceIte,reduceEqDiff]
  obtain ⟨c195,hv196,hS197⟩:=SlG.cls0 (c:=c152) (os:=c160) hv155 rfl hx148 z7 (Chan.RI (x:=x147) hv161) (Sep.m1 (Sep.m1 hS190))
  have hv198:=SlG.toN hv196
  obtain ⟨oc201,hX203,hk204⟩:=jp hF149
  simp only [q3t]
  refine ko (σ:=Unit) x116.Way (fun i199 x200 _=>qah i199 x200 ) (fun s fr' h'=>fr' 1 = .ref [lst cI v_0.Amounts,lst Chan.cells v_0.Chans,
    lst Picture.cells v_0.Pictures,.int .i64 v_0.Sent,.int .i64 v_0.Total] 0∧fr' 4=v10∧fr' 5 = .int .i64 s101∧fr' 9 = .ref [.int .i64 x116.From,.int .i64 x116.To,
    lst cI x116.Way] 0∧fr' 64=lst Chan.cells v_0.Chans∧fr' 65 = .int .i64 (List.length v_0.Chans:Int)∧fr' 66 = .int .i64
    (i115:Int)∧fr' 96=lst cI x116.Way∧Sep h' (geL h.length) (c195++([]))) hX203 ⟨f182,f183,f184,f185,f186,f187,f188,rfl,hS197⟩ (by simp only [B0,reduceIte,
    reduceEqDiff]) (by simp only [B0,reduceIte,reduceEqDiff]) (fun _ _ _ h=>h) rfl rfl (fun _ _ _ _ h=>h) (fun _ _ _ _ h=>h) (fun _ _ _ _ h=>h) (by decide) ?_ ?_
  ·rintro i199 x200 _ fr213 h214 hx224 ⟨f216,f217,f218,f219,f220,f221,f222,f223,hS215⟩ f225 f226 oc202 hF205 hr206 Q207 hN208 hB212 hK209 hR210 hE211
   unfold qah at hF205
   simp only [qzk,qd,qc,f223,f225,jg,B0,reduceIte,reduceEqDiff]
   refine qh (v := .ref (cI x200) 0) (kp hx224 rfl) ?_
   simp only [qp,B0,reduceIte,reduceEqDiff]
   refine qh (v := .int .i64 x200) rfl ?_
   simp only [qe,qa,qxs,qd,qc,zd,B0,reduceIte,reduceEqDiff]
   refine j5 rfl (qj qq (qj qq (qj qq q9))) (uq (fun b hb=>decide_eq_true hb) x200 0 1000 _ rfl) ?_
   simp only [jz,qb,kf,qa,zc,B0,reduceIte,reduceEqDiff]
   refine zb (t:=(!(ja x200 0 1000))) (fun hc227=>?_) (fun hc227=>?_)
   ·rw [iteT hc227] at hF205
    simp only [qd,qc,qe,qa,qz,B0,reduceIte,reduceEqDiff]
    have e228:=qk hF205
    subst e228
    have ho229:=hr206 _ rfl
    have hk230:=hk204
    rw [ho229] at hk230
    dsimp only [jnO] at hk230
    apply hR210
    have e231:=qk hk230
    subst e231
    have ho232:=hr122 _ rfl
    have hk233:=hk120
    rw [ho232] at hk233
    dsimp only [jnO] at hk233
    apply hR126
    have he:=qk hk233
    subst he
    simp only [zl,B0,reduceIte,reduceEqDiff]
    exact rfl
   rw [iteF hc227] at hF205
   simp only [zg,qo,B0,reduceIte,reduceEqDiff]
   have e234:=qk hF205
   exact hN208 _ _ _ e234.symm ⟨f216,f217,f218,f219,f220,f221,f222,f223,hS215⟩ (f225) (f226)
  rintro _ fr236 h237 rfl ⟨f239,f240,f241,f242,f243,f244,f245,f246,hS238⟩
  dsimp only [jnO] at hk204
  unfold qcf at hk204
  simp only [qta,qd,qc,f242,qp,B0,reduceIte,reduceEqDiff]
  refine qh (v := .agg [.int .i64 x116.From,.int .i64 x116.To,lst cI x116.Way]) rfl ?_
  obtain ⟨v247,hx248,hF249⟩:=qg hk204
  simp only [zd,B0,reduceIte,reduceEqDiff]
  refine j5 rfl (qj (ji (qj qq (qj qq (qj zm q9)))) q9) (qls (fun b hb=>decide_eq_true hb) x116 v247 hx248) ?_
  simp only [qe,qa,qti,qd,jd,f239,zi,qf,Nat.reduceAdd,Nat.zero_add,Nat.add_zero,qr,ze,B0,reduceIte,reduceEqDiff]
  refine qm (v:=lst Picture.cells v_0.Pictures) rfl ?_
  simp only [f242,zi,qf,Nat.reduceAdd,Nat.zero_add,Nat.add_zero,qr,ze,B0,reduceIte,reduceEqDiff]
  refine qm (v := .int .i64 x116.To) rfl ?_
  obtain ⟨x250,hx251,hF252⟩:=qg hF249
  simp only [jo,B0,reduceIte,reduceEqDiff]
  refine qm (v := .ref (Picture.cells x250) 0) (k5 hx251 rfl) ?_
  simp only [zi,qf,Nat.reduceAdd,Nat.zero_add,Nat.add_zero,qr,ze,B0,reduceIte,reduceEqDiff]
  refine qm (v:=lst cB x250.Closed) rfl ?_
  simp only [f242,zi,qf,Nat.reduceAdd,Nat.zero_add,Nat.add_zero,qr,ze,B0,reduceIte,reduceEqDiff]
  refine qm (v := .int .i64 x116.From) rfl ?_
  obtain ⟨x253,hx254,hF255⟩:=qg hF252
  simp only [jo,B0,reduceIte,reduceEqDiff]
  refine qm (v := .ref (cB x253) 0) (k5 hx254 rfl) ?_
  simp only [ze,B0,reduceIte,reduceEqDiff]
  refine qm (v := .bool x253) rfl ?_
  simp only [qs,qtt,zc,B0,reduceIte,reduceEqDiff]
  obtain ⟨s256,hX258,hk259⟩:=qg hF255
  refine u5 (t:=x253) (fun fr' h'=>fr' 1 = .ref [lst cI v_0.Amounts,lst Chan.cells v_0.Chans,lst Picture.cells v_0.Pictures,.int .i64 v_0.Sent,
    .int .i64 v_0.Total] 0∧fr' 4=v10∧fr' 5 = .int .i64 s101∧fr' 9 = .ref [.int .i64 x116.From,.int .i64 x116.To,
    lst cI x116.Way] 0∧fr' 12 = .int .i64 s256∧fr' 64=lst Chan.cells v_0.Chans∧fr' 65 = .int .i64 (List.length v_0.Chans:Int)∧fr' 66 = .int .i64
    (i115:Int)∧Sep h' (geL h.length) (c195++([]))) (fun Q260 hN261 hR262 hE263=>⟨fun hc264=>?_,fun hc264=>?_⟩) ?_
  ·rw [iteT hc264] at hX258
   simp only [qc,qe,zf,qb,yz,qa,qo,B0,reduceIte,reduceEqDiff]
   have e265:=qk hX258
   subst e265
   exact hN261 _ _ ⟨f239,f240,f241,f242,rfl,f243,f244,f245,hS238⟩
  ·rw [iteF hc264] at hX258
   simp only [zg,qo,B0,reduceIte,reduceEqDiff]
   have e266:=qk hX258
   subst e266
   exact hN261 _ _ ⟨f239,f240,f241,f242,rfl,f243,f244,f245,hS238⟩
  rintro fr267 h268 ⟨f270,f271,f272,f273,f274,f275,f276,f277,hS269⟩
  unfold qdy at hk259
  simp only [qs7,qd,qc,f270,qt,qb,Nat.reduceAdd,Nat.zero_add,Nat.add_zero,qr,qp,B0,reduceIte,reduceEqDiff]
  refine qh (v:=lst Picture.cells v_0.Pictures) rfl ?_
  simp only [f273,qt,qb,Nat.reduceAdd,Nat.zero_add,Nat.add_zero,qr,qp,B0,reduceIte,reduceEqDiff]
  refine qh (v := .int .i64 x116.From) rfl ?_
  obtain ⟨x278,hx279,hF280⟩:=qg hk259
  simp only [jg,B0,reduceIte,reduceEqDiff]
  refine qh (v := .ref (Picture.cells x278) 0) (k5 hx279 rfl) ?_
  simp only [qt,qb,Nat.reduceAdd,Nat.zero_add,Nat.add_zero,qr,qp,B0,reduceIte,reduceEqDiff]
  refine qh (v := .bool x278.Taken) rfl ?_
  simp only [qe,B0,reduceIte,reduceEqDiff]
  refine j0 3 (fun fr' h'=>Sep h' (geL h.length) (c195++([]))∧fr' 131 = .bool (x278.Taken&&(decide (s256≠1)))∧fr' 1 = .ref [lst cI v_0.Amounts,
    lst Chan.cells v_0.Chans,lst Picture.cells v_0.Pictures,.int .i64 v_0.Sent,
    .int .i64 v_0.Total] 0∧fr' 4=v10∧fr' 5 = .int .i64 s101∧fr' 9 = .ref [.int .i64 x116.From,.int .i64 x116.To,
    lst cI x116.Way] 0∧fr' 12 = .int .i64 s256∧fr' 64=lst Chan.cells v_0.Chans∧fr' 65 = .int .i64 (List.length v_0.Chans:Int)∧fr' 66 = .int .i64 (i115:Int))
    (fun Q281 hN282=>?_) ?_
  ·simp only [List.take_succ_cons,List.take_zero]
   simp only [ql (g:=128),B0,reduceIte,reduceEqDiff]
   refine zn (t:=x278.Taken) (fun hg283=>?_) (fun hg283=>?_)
   ·simp only [hg283,ql (g:=128),z4,f274,qe,zf,qb,ws,za,zp,qa,qo,B0,reduceIte,reduceEqDiff]
    exact hN282 _ _ ⟨hS269,by rw [qb5 hg283]; simp only [B0,reduceIte,reduceEqDiff],f270,f271,f272,f273,f274,f275,f276,f277⟩
   ·simp only [hg283,ql (g:=128),kw,za,qb,zq,qa,qo,B0,reduceIte,reduceEqDiff]
    exact hN282 _ _ ⟨hS269,by rw [qb4 hg283]; simp only [B0,reduceIte,reduceEqDiff],f270,f271,f272,f273,f274,f275,f276,f277⟩
  rintro fr284 h294 ⟨hS295,f285,f286,f287,f288,f289,f290,f291,f292,f293⟩
  simp only [List.drop_succ_cons,List.drop_zero]
  simp only [f285,qe,B0,reduceIte,reduceEqDiff]
  obtain ⟨v299,hx300,hF301⟩:=qg hF280
  refine j0 13 (fun fr' h'=>Sep h' (geL h.length) (c195++([]))∧fr' 145 = .bool v299∧fr' 1 = .ref [lst cI v_0.Amounts,lst Chan.cells v_0.Chans,
    lst Picture.cells v_0.Pictures,.int .i64 v_0.Sent,
    .int .i64 v_0.Total] 0∧fr' 4=v10∧fr' 5 = .int .i64 s101∧fr' 64=lst Chan.cells v_0.Chans∧fr' 65 = .int .i64 (List.length v_0.Chans:Int)∧fr' 66 = .int .i64
    (i115:Int)) (fun Q296 hN297=>?_) ?_
  ·simp only [List.take_succ_cons,List.take_zero]
   simp only [ql (g:=132),B0,reduceIte,reduceEqDiff]
   refine zn (t:=(x278.Taken&&(decide (s256≠1)))) (fun hg298=>?_) (fun hg298=>?_)
   ·rw [iteT hg298] at hx300
    simp only [hg298,ql (g:=132),jm,ql (g:=141),qhh,za,qb,zp,qa,qo,B0,reduceIte,reduceEqDiff]
    have e302:=qk hx300
    exact hN297 _ _ ⟨hS295,by rw [←e302]; simp only [B0,reduceIte,reduceEqDiff],f286,f287,f288,f291,f292,f293⟩
   ·rw [iteF hg298] at hx300
    simp only [hg298,ql (g:=132),qv,f286,qt,qb,Nat.reduceAdd,Nat.zero_add,Nat.add_zero,qr,qp,B0,reduceIte,reduceEqDiff]
    refine qh (v:=lst Picture.cells v_0.Pictures) rfl ?_
    simp only [hg298,ql (g:=132),qv,f289,qt,qb,Nat.reduceAdd,Nat.zero_add,Nat.add_zero,qr,qp,B0,reduceIte,reduceEqDiff]
    refine qh (v := .int .i64 x116.From) rfl ?_
    obtain ⟨x303,hx304,hF305⟩:=qg hx300
    simp only [hg298,ql (g:=132),qv,jg,B0,reduceIte,reduceEqDiff]
    refine qh (v := .ref (Picture.cells x303) 0) (k5 hx304 rfl) ?_
    simp only [hg298,ql (g:=132),qv,qt,qb,Nat.reduceAdd,Nat.zero_add,Nat.add_zero,qr,qp,B0,reduceIte,reduceEqDiff]
    refine qh (v := .bool x303.Taken) rfl ?_
    simp only [hg298,ql (g:=132),qv,jz,qb,kf,qe,B0,reduceIte,reduceEqDiff]
    refine j0 3 (fun fr' h'=>Sep h' (geL h.length) (c195++([]))∧fr' 144 = .bool ((!x303.Taken)&&(decide (s256≠0)))∧fr' 1 = .ref [lst cI v_0.Amounts,
      lst Chan.cells v_0.Chans,lst Picture.cells v_0.Pictures,.int .i64 v_0.Sent,
      .int .i64 v_0.Total] 0∧fr' 4=v10∧fr' 5 = .int .i64 s101∧fr' 64=lst Chan.cells v_0.Chans∧fr' 65 = .int .i64
      (List.length v_0.Chans:Int)∧fr' 66 = .int .i64 (i115:Int)∧fr' 132 = .bool (x278.Taken&&(decide (s256≠1)))) (fun Q306 hN307=>?_) ?_
    ·simp only [List.take_succ_cons,List.take_zero]
     simp only [ql (g:=141),B0,reduceIte,reduceEqDiff]
     refine zn (t:=(!x303.Taken)) (fun hg308=>?_) (fun hg308=>?_)
     ·simp only [hg308,ql (g:=141),z4,f290,qe,zf,qb,ws,hg298,ql (g:=132),qv,za,zp,qa,
       qo,B0,reduceIte,reduceEqDiff]
      exact hN307 _ _ ⟨hS295,by rw [qb5 hg308]; simp only [B0,reduceIte,reduceEqDiff],f286,f287,f288,f291,f292,f293,by simp only [hg298,B0,reduceIte,
        reduceEqDiff]⟩
     ·simp only [hg308,ql (g:=141),kw,hg298,ql (g:=132),qv,za,qb,zq,qa,qo,B0,reduceIte,
       reduceEqDiff]
      exact hN307 _ _ ⟨hS295,by rw [qb4 hg308]; simp only [B0,reduceIte,reduceEqDiff],f286,f287,f288,f291,f292,f293,by simp only [hg298,B0,reduceIte,
        reduceEqDiff]⟩
    rintro fr309 h318 ⟨hS319,f310,f311,f312,f313,f314,f315,f316,f317⟩
    simp only [List.drop_succ_cons,List.drop_zero]
    simp only [f317,hg298,za,qb,zq,f310,qa,qo,B0,reduceIte,reduceEqDiff]
    have e320:=qk hF305
    exact hN297 _ _ ⟨hS319,by rw [←e320]; simp only [B0,reduceIte,reduceEqDiff],f311,f312,f313,f314,f315,f316⟩
  rintro fr321 h329 ⟨hS330,f322,f323,f324,f325,f326,f327,f328⟩
  simp only [List.drop_succ_cons,List.drop_zero]
  simp only [qa,f322,zc,B0,reduceIte,reduceEqDiff]
  refine zb (t:=v299) (fun hc331=>?_) (fun hc331=>?_)
  ·rw [iteT hc331] at hF301
   simp only [qd,qc,qe,qa,qz,B0,reduceIte,reduceEqDiff]
   have e332:=qk hF301
   subst e332
   have ho333:=hr122 _ rfl
   have hk334:=hk120
   rw [ho333] at hk334
   dsimp only [jnO] at hk334
   apply hR126
   have he:=qk hk334
   subst he
   simp only [zl,B0,reduceIte,reduceEqDiff]
   exact rfl
  rw [iteF hc331] at hF301
  simp only [zg,qo,B0,reduceIte,reduceEqDiff]
  have e335:=qk hF301
  exact hN124 _ _ _ e335.symm ⟨c195,f323,f324,f325,f326,hv198,hS330⟩ (f328) (f327)
 rintro s339 fr342 h343 rfl ⟨c340,f345,f346,f347,f348,hv341,hS344⟩
 dsimp only [jnO] at hk120
 unfold qd3 at hk120
 simp only [qqm,qd,jd,f347,qhm,qf,f345,ze,B0,reduceIte,reduceEqDiff]
 refine qm (v := .agg [lst cI v_0.Amounts,lst Chan.cells v_0.Chans,lst Picture.cells v_0.Pictures,.int .i64 v_0.Sent,.int .i64 v_0.Total]) rfl ?_
 obtain ⟨v349,hx350,hF351⟩:=qg hk120
 simp only [qdn,B0,reduceIte,reduceEqDiff]
 refine qno rfl (qj (ji (qj zm (qj zm (qj zm (qj qq (qj qq q9)))))) q9) (qh2
   (fun b hb=>decide_eq_true hb) v_0 v349 hx350) ?_
 simp only [kn,qf,yz,f345,qdw,Nat.reduceAdd,Nat.zero_add,Nat.add_zero,qr,qbl,qbt,B0,reduceIte,reduceEqDiff]
 refine qm (v := .int .i64 v_0.Total) rfl ?_
 simp only [kn,qf,wi,zr,B0,reduceIte,reduceEqDiff]
 simp only [qn (g:=154),B0,reduceIte,reduceEqDiff]
 refine jf (t:=(decide ((IntKind.wrap .i64 (s101+v349))=v_0.Total))) (fun hg352=>?_) (fun hg352=>?_)
 ·rw [iteT hg352] at hF351
  simp only [hg352,qn (g:=154),z9,f345,zi,qf,Nat.reduceAdd,Nat.zero_add,Nat.add_zero,qr,ze,B0,reduceIte,reduceEqDiff]
  refine qm (v := .int .i64 v_0.Total) rfl ?_
  simp only [hg352,qn (g:=154),z9,wu,B0,reduceIte,reduceEqDiff]
  refine qfp rfl (qj qq (qj qq (qj qq q9))) (uq (fun b hb=>decide_eq_true hb) v_0.Total 0 1000 _ rfl) ?_
  simp only [hg352,z8,qf,zp,zr,qs,qz,B0,reduceIte,reduceEqDiff]
  have he:=qk hF351
  subst he
  simp only [zl,B0,reduceIte,reduceEqDiff]
  exact rfl
 rw [iteF hg352] at hF351
 simp only [hg352,qn (g:=154),ud,z8,qf,zq,zr,qs,qz,B0,reduceIte,reduceEqDiff]
 have he:=qk hF351
 subst he
 simp only [zl,B0,reduceIte,reduceEqDiff]
 exact rfl
theorem qkp {W:Nat→Bool}{h:Heap} (hW:∀ b,
  (geL h.length) b→W b=true) (k:Nat) (s_0:Snap) (x_1:SnapStep) (r:Snap × Bool) (hF:qcg k s_0 x_1=some r) : Ret E W 27 [.agg [lst cI s_0.Amounts,
  lst Chan.cells s_0.Chans,lst Picture.cells s_0.Pictures,.int .i64 s_0.Sent,.int .i64 s_0.Total],.agg [.int .i64 x_1.Kind,.int .i64 x_1.K,
  .int .i64 x_1.N]] h (fun v h'=>∃ rv0_0 rc0_0 rv0_1 rc0_1 rv0_2 rc0_2,v = .tup [.agg [rv0_0,rv0_1,rv0_2,.int .i64 r.1.Sent,.int .i64 r.1.Total],
  .bool r.2]∧SlF cI 1 3 rv0_0 r.1.Amounts rc0_0∧SlN Chan.R 3 74 rv0_1 r.1.Chans rc0_1∧SlN Picture.R 4 76 rv0_2 r.1.Pictures rc0_2∧Sep h' (geL h.length) (rc0_0 ++
  (rc0_1++(rc0_2++([]))))):=by
 refine Ret.of (fn:=x27) rfl (Run.of ?_)
 unfold qcg at hF
 have zf0:zh [.agg [lst cI s_0.Amounts,lst Chan.cells s_0.Chans,lst Picture.cells s_0.Pictures,.int .i64 s_0.Sent,.int .i64 s_0.Total],.agg [.int .i64 x_1.Kind,
   .int .i64 x_1.K,.int .i64 x_1.N]] 0 = .agg [lst cI s_0.Amounts,lst Chan.cells s_0.Chans,lst Picture.cells s_0.Pictures,.int .i64 s_0.Sent,.int .i64 s_0.Total]:=rfl
 have zf1:zh [.agg [lst cI s_0.Amounts,lst Chan.cells s_0.Chans,lst Picture.cells s_0.Pictures,.int .i64 s_0.Sent,.int .i64 s_0.Total],.agg [.int .i64 x_1.Kind,
   .int .i64 x_1.K,.int .i64 x_1.N]] 1 = .agg [.int .i64 x_1.Kind,.int .i64 x_1.K,.int .i64 x_1.N]:=rfl
 generalize zh [.agg [lst cI s_0.Amounts,lst Chan.cells s_0.Chans,lst Picture.cells s_0.Pictures,.int .i64 s_0.Sent,.int .i64 s_0.Total],.agg [.int .i64 x_1.Kind,
   .int .i64 x_1.K,.int .i64 x_1.N]]=fr0 at zf0 zf1 ⊢
 have hS:Sep h (geL h.length) []:=Sep.nil h
 simp only [x27,qd,qc,kh,zf0,B0,reduceIte,reduceEqDiff]
 refine jt (cs:=[lst cI s_0.Amounts,lst Chan.cells s_0.Chans,lst Picture.cells s_0.Pictures,.int .i64 s_0.Sent,
   .int .i64 s_0.Total]) hS rfl rfl rfl (fun b1 h2 hS3=>?_)
 simp only [kh,zf1,B0,reduceIte,reduceEqDiff]
 refine jt (cs:=[.int .i64 x_1.Kind,.int .i64 x_1.K,.int .i64 x_1.N]) hS3 rfl rfl rfl (fun b5 h6 hS7=>?_)
 simp only [jb,B0,reduceIte,reduceEqDiff]
 refine zv hS7 (fun b9 h10 hS11=>?_)
 simp only [qe,qa,B0,reduceIte,reduceEqDiff]
 refine zw (Sep.m2 hS11) hW (by simp only [B0,reduceIte,reduceEqDiff]) (fun h13 hS14=>?_)
 refine zw (Sep.m1 hS14) hW (by simp only [B0,reduceIte,reduceEqDiff]) (fun h15 hS16=>?_)
 simp only [zo,q3y,qd,qc,qp,B0,reduceIte,reduceEqDiff]
 refine qh (v := .agg [lst cI s_0.Amounts,lst Chan.cells s_0.Chans,lst Picture.cells s_0.Pictures,.int .i64 s_0.Sent,.int .i64 s_0.Total]) rfl ?_
 obtain ⟨v17,hx18,hF19⟩:=qg hF
 simp only [zd,B0,reduceIte,reduceEqDiff]
 refine j5 rfl (qj (ji (qj zm (qj zm (qj zm (qj qq (qj qq q9)))))) q9) (qay
   (fun b hb=>decide_eq_true hb) k s_0 v17 hx18) ?_
 simp only [jz,qb,kf,qa,q3c,zc,B0,reduceIte,reduceEqDiff]
 refine zb (t:=(!v17)) (fun hc20=>?_) (fun hc20=>?_)
 ·rw [iteT hc20] at hF19
  simp only [qd,qc,run_build,evp,B0,reduceIte,reduceEqDiff]
  refine qh (v := .agg [.nil,.nil,.nil,.int .i64 0,.int .i64 0]) rfl ?_
  simp only [zj,B0,reduceIte,reduceEqDiff]
  refine qx (us:=[.nil,.nil,.nil,.int .i64 0,.int .i64 0]) rfl (cs':=[.nil,.nil,.nil,.int .i64 0,
    .int .i64 0]) hS16 hW rfl rfl (Nat.le_of_ble_eq_true rfl) rfl (fun h21 hS22=>?_)
  simp only [qe,qa,qz,B0,reduceIte,reduceEqDiff]
  have he:=qk hF19
  subst he
  refine jr (qj (jv (bb:=b9) (oo:=0) (v := .agg [.nil,.nil,.nil,.int .i64 0,
    .int .i64 0]) (rfl) ((z0 (Sep.bk _ _ _ hS22)).trans rfl)) (qj (kz (v := .bool false) (rfl)) q9)) ?_
  exact ⟨.nil,[],.nil,[],.nil,[],by first | trivial | rfl,SlF.nil,SlN.nil,SlN.nil,((Sep.dc (hS22)) : Sep _ (geL h.length) ([]))⟩
 rw [iteF hc20] at hF19
 simp only [zg,q2b,qd,jd,qkt,B0,reduceIte,reduceEqDiff]
 refine qge hS16 (fun b23 h24 hS25=>?_)
 simp only [ze,B0,reduceIte,reduceEqDiff]
 refine qm (v := .agg [lst cI s_0.Amounts,lst Chan.cells s_0.Chans,lst Picture.cells s_0.Pictures,.int .i64 s_0.Sent,.int .i64 s_0.Total]) rfl ?_
 obtain ⟨v27,hx28,hF29⟩:=qg hF19
 simp only [qdn,B0,reduceIte,reduceEqDiff]
 refine qvv rfl hS25 (qj (ji (qj zm (qj zm (qj zm (qj qq (qj qq q9)))))) q9) (qbv
   (fun b hb=>decide_eq_true hb) s_0 v27 hx28) ?_
 rintro _ h42 ⟨v30,c31,v34,c35,v38,c39,rfl,hv32,hv36,hv40,hS43⟩
 refine ⟨_,qci (qi (SlF.free1 hv32) (qi (SlN.free1 hv36) (qi (SlN.free1 hv40) (qi rfl (qi rfl zk))))),hS43,
   (jc (SlF.pf hv32 (fun _=>rfl)) (jc (SlN.pf hv36 Chan.RO) (jc (SlN.pf hv40 Picture.RO) wt))),fun h44 hS45=>?_⟩
 have hS46:Sep h44 (geL h.length) (c31++(c35++(c39++([Blk1 b23 [.nil,.nil,.nil,.int .i64 0,.int .i64 0] 30]++([Blk1 b9 [.nil,.nil,.nil,.int .i64 0,
   .int .i64 0] 30]++([])))))):=by simpa only [List.append_assoc,List.nil_append] using hS45
 simp only [qbl,qbt,B0,reduceIte,reduceEqDiff]
 refine qm (v := .agg [.int .i64 x_1.Kind,.int .i64 x_1.K,.int .i64 x_1.N]) rfl ?_
 obtain ⟨v47,hx48,hF49⟩:=qg hF29
 simp only [wu,B0,reduceIte,reduceEqDiff]
 refine qla rfl (qio hW v27 v30 c31 hv32 v34 c35 hv36 v38 c39 hv40 x_1 v47 hx48 (Sep.m2 (Sep.m2 (Sep.m2 hS46)))) ?_
 rintro _ h56 ⟨c50,c52,c54,rfl,hv51,hv53,hv55,hS57⟩
 simp only [zr,qf,qrv,w6,quj,w5,xj,B0,reduceIte,reduceEqDiff]
 refine qa6 (us:=[v30,v34,v38,.int .i64 v47.1.Sent,.int .i64 v47.1.Total]) rfl (cs':=[v30,v34,v38,.int .i64 v47.1.Sent,
   .int .i64 v47.1.Total]) (Sep.m3 hS57) hW rfl (qi (SlF.one hv51) (qi (SlN.one hv53) (qi (SlN.one hv55) (qi rfl (qi rfl zk)))))
   (Nat.le_of_ble_eq_true rfl) rfl (fun h58 hS59=>?_)
 simp only [zr,qf,qs,B0,reduceIte,reduceEqDiff]
 refine zw hS59 hW (by simp only [B0,reduceIte,reduceEqDiff]) (fun h60 hS61=>?_)
 simp only [zo,q3b,qd,qc,qe,jz,qb,kf,qa,q44,zc,B0,reduceIte,reduceEqDiff]
 refine zb (t:=(!v47.2)) (fun hc62=>?_) (fun hc62=>?_)
 ·rw [iteT hc62] at hF49
  simp only [qd,qc,run_build,evp,B0,reduceIte,reduceEqDiff]
  refine qh (v := .agg [.nil,.nil,.nil,.int .i64 0,.int .i64 0]) rfl ?_
  simp only [zj,B0,reduceIte,reduceEqDiff]
  refine qx (us:=[.nil,.nil,.nil,.int .i64 0,.int .i64 0]) rfl (cs':=[.nil,.nil,.nil,.int .i64 0,
    .int .i64 0]) (Sep.m3 hS61) hW rfl rfl (Nat.le_of_ble_eq_true rfl) rfl (fun h63 hS64=>?_)
  simp only [qe,qa,qz,B0,reduceIte,reduceEqDiff]
  have he:=qk hF49
  subst he
  refine jr (qj (jv (bb:=b9) (oo:=0) (v := .agg [.nil,.nil,.nil,.int .i64 0,
    .int .i64 0]) (rfl) ((z0 (Sep.bk _ _ _ hS64)).trans rfl)) (qj (kz (v := .bool false) (rfl)) q9)) ?_
  exact ⟨.nil,[],.nil,[],.nil,[],by first | trivial | rfl,SlF.nil,SlN.nil,SlN.nil,((Sep.dc ((Sep.dc ((Sep.dc ((Sep.dc (hS64)))))))) : Sep _ (geL h.length) ([]))⟩
 rw [iteF hc62] at hF49
 simp only [zg,qzm,qd,qc,qp,B0,reduceIte,reduceEqDiff]
 refine qh (v := .agg [v30,v34,v38,.int .i64 v47.1.Sent,.int .i64 v47.1.Total]) rfl ?_
 obtain ⟨v65,hx66,hF67⟩:=qg hF49
 simp only [zd,B0,reduceIte,reduceEqDiff]
 refine ut rfl hS61 (qj (ji (qj (SlF.snap hv51 hS61 rfl (fun _=>rfl) (fun _=>rfl)) (qj (SlN.snap hv53 _ (Sep.m1 hS61) rfl Chan.RO) (qj (SlN.snap hv55 _
   (Sep.m2 hS61) rfl Picture.RO) (qj qq (qj qq q9)))))) q9) (qbv (fun b hb=>decide_eq_true hb) v47.1 v65 hx66) ?_
 rintro _ h80 ⟨v68,c69,v72,c73,v76,c77,rfl,hv70,hv74,hv78,hS81⟩
 refine ⟨_,qci (qi (SlF.free1 hv70) (qi (SlN.free1 hv74) (qi (SlN.free1 hv78) (qi rfl (qi rfl zk))))),hS81,
   (jc (SlF.pf hv70 (fun _=>rfl)) (jc (SlN.pf hv74 Chan.RO) (jc (SlN.pf hv78 Picture.RO) wt))),fun h82 hS83=>?_⟩
 have hS84:Sep h82 (geL h.length) (c69++(c73++(c77++(c50++(c52++(c54++([Blk1 b9 [.nil,.nil,.nil,.int .i64 0,
   .int .i64 0] 30]++([])))))))):=by simpa only [List.append_assoc,List.nil_append] using hS83
 simp only [zj,B0,reduceIte,reduceEqDiff]
 refine qx (us:=[v68,v72,v76,.int .i64 v65.Sent,.int .i64 v65.Total]) rfl (cs':=[v68,v72,v76,.int .i64 v65.Sent,
   .int .i64 v65.Total]) (Sep.m6 hS84) hW rfl (qi (SlF.one hv70) (qi (SlN.one hv74) (qi (SlN.one hv78) (qi rfl (qi rfl zk)))))
   (Nat.le_of_ble_eq_true rfl) rfl (fun h85 hS86=>?_)
 simp only [qe,qa,qz,B0,reduceIte,reduceEqDiff]
 have he:=qk hF67
 subst he
 refine jr (qj (jv (bb:=b9) (oo:=0) (v := .agg [v68,v72,v76,.int .i64 v65.Sent,
   .int .i64 v65.Total]) (rfl) ((z0 (Sep.bk _ _ _ hS86)).trans rfl)) (qj (kz (v := .bool true) (rfl)) q9)) ?_
 exact ⟨v68,c69,v72,c73,v76,c77,by first | trivial | rfl,hv70,hv74,hv78,(Sep.m2 (Sep.m2 (Sep.m2 (Sep.dc (Sep.m3 (Sep.dc (Sep.m3 (Sep.dc (Sep.m3 (Sep.dc (hS86)))))))))))⟩
theorem qit {W:Nat→Bool}{h:Heap} (hW:∀ b,
  (geL h.length) b→W b=true) (k:Nat) (code_0:List Int) (r:Snap) (hF:qdi k code_0=some r) : Ret E W 70 [lst cU8 code_0] h
  (fun v h'=>∃ rv0_0 rc0_0 rv0_1 rc0_1 rv0_2 rc0_2,v = .agg [rv0_0,rv0_1,rv0_2,.int .i64 r.Sent,
  .int .i64 r.Total]∧SlF cI 1 3 rv0_0 r.Amounts rc0_0∧SlN Chan.R 3 74 rv0_1 r.Chans rc0_1∧SlN Picture.R 4 76 rv0_2 r.Pictures rc0_2∧Sep h' (geL h.length) (rc0_0 ++
  (rc0_1++(rc0_2++([]))))):=by
 refine Ret.of (fn:=x70) rfl (Run.of ?_)
 unfold qdi at hF
 have zf0:zh [lst cU8 code_0] 0=lst cU8 code_0:=rfl
 generalize zh [lst cU8 code_0]=fr0 at zf0 ⊢
 have hS:Sep h (geL h.length) []:=Sep.nil h
 simp only [x70,qd,qc,jb,B0,reduceIte,reduceEqDiff]
 refine zv hS (fun b1 h2 hS3=>?_)
 simp only [qa,q3v,qd,qc,zf0,qe,run_build,evp,B0,reduceIte,reduceEqDiff]
 refine qh (v := .agg [lst cU8 code_0,.int .i64 0,.int .u64 0]) rfl ?_
 simp only [kh,B0,reduceIte,reduceEqDiff]
 refine jt (cs:=[lst cU8 code_0,.int .i64 0,.int .u64 0]) hS3 rfl rfl rfl (fun b5 h6 hS7=>?_)
 obtain ⟨v9,hx10,hF11⟩:=qg hF
 simp only [qe,qa,qd,qc,zd,B0,reduceIte,reduceEqDiff]
 refine yp rfl (qjo hW k b5 (L1Cur.mk code_0 0 0) v9 hx10 hS7) ?_
 rintro _ h24 ⟨v12,c13,v16,c17,v20,c21,rfl,hv14,hv18,hv22,hS25⟩
 simp only [zj,B0,reduceIte,reduceEqDiff]
 refine qx (us:=[v12,v16,v20,.int .i64 v9.1.Sent,.int .i64 v9.1.Total]) rfl (cs':=[v12,v16,v20,.int .i64 v9.1.Sent,
   .int .i64 v9.1.Total]) (Sep.m4 hS25) hW rfl (qi (SlF.one hv14) (qi (SlN.one hv18) (qi (SlN.one hv22) (qi rfl (qi rfl zk)))))
   (Nat.le_of_ble_eq_true rfl) rfl (fun h26 hS27=>?_)
 simp only [qa,qz,B0,reduceIte,reduceEqDiff]
 have he:=qk hF11
 subst he
 refine ua (bb:=b1) (oo:=0) (v := .agg [v12,v16,v20,.int .i64 v9.1.Sent,.int .i64 v9.1.Total]) (by simp only [B0,reduceIte,
   reduceEqDiff]) ((z0 (Sep.bk _ _ _ hS27)).trans rfl) ?_
 exact ⟨v12,c13,v16,c17,v20,c21,by first | trivial | rfl,hv14,hv18,hv22,(Sep.m2 (Sep.m2 (Sep.m2 (Sep.dc (Sep.m3 (Sep.dc (hS27)))))))⟩
theorem qh4 {W:Nat→Bool}{h:Heap} (hW:∀ b,
  (geL h.length) b→W b=true) (k:Nat) (code_0:List Int) (r:Snap) (hF:qar k code_0=some r) : Ret E W 29 [lst cU8 code_0] h
  (fun v h'=>∃ rv0_0 rc0_0 rv0_1 rc0_1 rv0_2 rc0_2,v = .agg [rv0_0,rv0_1,rv0_2,.int .i64 r.Sent,
  .int .i64 r.Total]∧SlF cI 1 3 rv0_0 r.Amounts rc0_0∧SlN Chan.R 3 74 rv0_1 r.Chans rc0_1∧SlN Picture.R 4 76 rv0_2 r.Pictures rc0_2∧Sep h' (geL h.length) (rc0_0 ++
  (rc0_1++(rc0_2++([]))))):=by
 refine Ret.of (fn:=x29) rfl (Run.of ?_)
 unfold qar at hF
 have zf0:zh [lst cU8 code_0] 0=lst cU8 code_0:=rfl
 generalize zh [lst cU8 code_0]=fr0 at zf0 ⊢
 have hS:Sep h (geL h.length) []:=Sep.nil h
 simp only [x29,qd,qc,jb,B0,reduceIte,reduceEqDiff]
 refine zv hS (fun b1 h2 hS3=>?_)
 obtain ⟨v5,hx6,hF7⟩:=qg hF
 simp only [qa,qd,qc,zf0,qe,zd,B0,reduceIte,reduceEqDiff]
 refine ut rfl hS3 (qj zm q9) (qit (fun b hb=>decide_eq_true hb) k code_0 v5 hx6) ?_
 rintro _ h20 ⟨v8,c9,v12,c13,v16,c17,rfl,hv10,hv14,hv18,hS21⟩
 refine ⟨_,qci (qi (SlF.free1 hv10) (qi (SlN.free1 hv14) (qi (SlN.free1 hv18) (qi rfl (qi rfl zk))))),hS21,
   (jc (SlF.pf hv10 (fun _=>rfl)) (jc (SlN.pf hv14 Chan.RO) (jc (SlN.pf hv18 Picture.RO) wt))),fun h22 hS23=>?_⟩
 have hS24:Sep h22 (geL h.length) (c9++(c13++(c17++([Blk1 b1 [.nil,.nil,.nil,.int .i64 0,.int .i64 0] 30]++([]))))):=by simpa only [List.append_assoc,
   List.nil_append] using hS23
 simp only [zj,B0,reduceIte,reduceEqDiff]
 refine qx (us:=[v8,v12,v16,.int .i64 v5.Sent,.int .i64 v5.Total]) rfl (cs':=[v8,v12,v16,.int .i64 v5.Sent,
   .int .i64 v5.Total]) (Sep.m3 hS24) hW rfl (qi (SlF.one hv10) (qi (SlN.one hv14) (qi (SlN.one hv18) (qi rfl (qi rfl zk))))) (Nat.le_of_ble_eq_true rfl) rfl
   (fun h25 hS26=>?_)
 simp only [qa,qz,B0,reduceIte,reduceEqDiff]
 have he:=qk hF7
 subst he
 refine ua (bb:=b1) (oo:=0) (v := .agg [v8,v12,v16,.int .i64 v5.Sent,.int .i64 v5.Total]) (by simp only [B0,reduceIte,
   reduceEqDiff]) ((z0 (Sep.bk _ _ _ hS26)).trans rfl) ?_
 exact ⟨v8,c9,v12,c13,v16,c17,by first | trivial | rfl,hv10,hv14,hv18,(Sep.m2 (Sep.m2 (Sep.m2 (Sep.dc (hS26)))))⟩
theorem qht {W:Nat→Bool}{h:Heap} (hW:∀ b,
  (geL h.length) b→W b=true) (s_0:Snap) (r:Int) (hF:qaj s_0=some r) : Ret E W 72 [.agg [lst cI s_0.Amounts,lst Chan.cells s_0.Chans,
  lst Picture.cells s_0.Pictures,.int .i64 s_0.Sent,.int .i64 s_0.Total]] h (fun v h'=>cut h.length h' E.sz false 9 v=some (.int .i64 r)):=by
 refine Ret.of (fn:=x72) rfl (Run.of ?_)
 unfold qaj at hF
 have zf0:zh [.agg [lst cI s_0.Amounts,lst Chan.cells s_0.Chans,lst Picture.cells s_0.Pictures,.int .i64 s_0.Sent,.int .i64 s_0.Total]] 0 = .agg [lst cI s_0.Amounts,
   lst Chan.cells s_0.Chans,lst Picture.cells s_0.Pictures,.int .i64 s_0.Sent,.int .i64 s_0.Total]:=rfl
 generalize zh [.agg [lst cI s_0.Amounts,lst Chan.cells s_0.Chans,lst Picture.cells s_0.Pictures,.int .i64 s_0.Sent,.int .i64 s_0.Total]]=fr0 at zf0 ⊢
 have hS:Sep h (geL h.length) []:=Sep.nil h
 simp only [x72,qd,qc,kh,zf0,B0,reduceIte,reduceEqDiff]
 refine jt (cs:=[lst cI s_0.Amounts,lst Chan.cells s_0.Chans,lst Picture.cells s_0.Pictures,.int .i64 s_0.Sent,
   .int .i64 s_0.Total]) hS rfl rfl rfl (fun b1 h2 hS3=>?_)
 simp only [qe,qa,B0,reduceIte,reduceEqDiff]
 refine zw hS3 hW (by simp only [B0,reduceIte,reduceEqDiff]) (fun h5 hS6=>?_)
 simp only [zo,qzy,qd,qc,qt,qb,Nat.reduceAdd,Nat.zero_add,Nat.add_zero,qr,qp,B0,reduceIte,reduceEqDiff]
 refine qh (v:=lst Chan.cells s_0.Chans) rfl ?_
 simp only [z6,qb,z5,qe,qa,B0,reduceIte,reduceEqDiff]
 obtain ⟨oc9,hX11,hk12⟩:=jp hF
 simp only [q4x]
 refine ko (σ:=Unit) s_0.Chans (fun i7 x8 _=>qaz i7 x8 ) (fun s fr' h'=>fr' 6=lst Chan.cells s_0.Chans∧Sep h' (geL h.length) ([])) hX11 ⟨rfl,
   hS6⟩ (by simp only [B0,reduceIte,reduceEqDiff]) (by simp only [B0,reduceIte,
   reduceEqDiff]) (fun _ _ _ h=>h) rfl rfl (fun _ _ _ _ h=>h) (fun _ _ _ _ h=>h) (fun _ _ _ _ h=>h) (by decide) ?_ ?_
 ·rintro i7 x8 _ fr21 h22 hx25 ⟨f24,hS23⟩ f26 f27 oc10 hF13 hr14 Q15 hN16 hB20 hK17 hR18 hE19
  unfold qaz at hF13
  simp only [qym,qd,qc,f26,qe,f24,jg,B0,reduceIte,reduceEqDiff]
  refine qh (v := .ref (Chan.cells x8) 0) (kp hx25 rfl) ?_
  simp only [qp,B0,reduceIte,reduceEqDiff]
  refine qh (v := .agg [.int .i64 x8.From,.int .i64 x8.To,lst cI x8.Way]) rfl ?_
  simp only [jb,B0,reduceIte,reduceEqDiff]
  refine zv hS23 (fun b28 h29 hS30=>?_)
  simp only [qe,zj,B0,reduceIte,reduceEqDiff]
  refine qx (us:=[.int .i64 x8.From,.int .i64 x8.To,lst cI x8.Way]) rfl (cs':=[.int .i64 x8.From,.int .i64 x8.To,
    lst cI x8.Way]) hS30 hW rfl rfl (Nat.le_of_ble_eq_true rfl) rfl (fun h32 hS33=>?_)
  simp only [qa,B0,reduceIte,reduceEqDiff]
  refine zw hS33 hW (by simp only [B0,reduceIte,reduceEqDiff]) (fun h34 hS35=>?_)
  simp only [zo,q4h,qd,qc,qt,qb,Nat.reduceAdd,Nat.zero_add,Nat.add_zero,qr,qp,B0,reduceIte,reduceEqDiff]
  refine qh (v:=lst cI x8.Way) rfl ?_
  simp only [z6,qb,z5,zf,qe7,qa,qzj,zc,B0,reduceIte,reduceEqDiff]
  refine zb (t:=(decide ((0:Int)<(List.length x8.Way:Int)))) (fun hc36=>?_) (fun hc36=>?_)
  ·rw [iteT hc36] at hF13
   simp only [qd,qc,qe,qa,qz,B0,reduceIte,reduceEqDiff]
   have e37:=qk hF13
   subst e37
   have ho38:=hr14 _ rfl
   have hk39:=hk12
   rw [ho38] at hk39
   dsimp only [jnO] at hk39
   apply hR18
   have he:=qk hk39
   subst he
   simp only [zl,B0,reduceIte,reduceEqDiff]
   exact rfl
  rw [iteF hc36] at hF13
  simp only [zg,qo,B0,reduceIte,reduceEqDiff]
  have e40:=qk hF13
  exact hN16 _ _ _ e40.symm ⟨f24,hS35⟩ (f26) (f27)
 rintro _ fr42 h43 rfl ⟨f45,hS44⟩
 dsimp only [jnO] at hk12
 unfold qcp at hk12
 simp only [qd,qc,qe,qa,qz,B0,reduceIte,reduceEqDiff]
 have he:=qk hk12
 subst he
 simp only [zl,B0,reduceIte,reduceEqDiff]
 exact rfl
end Go.Proofs.Ytpkiieniipenjaa.X
