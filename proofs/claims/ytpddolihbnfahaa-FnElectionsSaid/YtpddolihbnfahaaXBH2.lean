/- The functions' code comes to what the plain functions say (2). -/
import Derived.Test.YtpddolihbnfahaaXBH1
set_option linter.unusedVariables false
set_option linter.unusedSimpArgs false
set_option maxRecDepth 100000
namespace Go.Proofs.Ytpddolihbnfahaa.X
open Go
open Nat (reduceEqDiff)
theorem qa3 {W:Nat→Bool}{h:Heap} (hW:∀ b,
  (geL h.length) b→W b=true) (v_0:Election) (r:Bool) (hF:kt v_0=some r) : Ret E W 53 [.agg [lst Server.cells v_0.Servers,lst Letter.cells v_0.Post,
  lst Vote.cells v_0.Led]] h (fun v h'=>cut h.length h' E.sz false 9 v=some (.bool r)):=by
 refine Ret.of (fn:=x53) rfl (Run.of ?_)
 unfold kt at hF
 have zf0:zb [.agg [lst Server.cells v_0.Servers,lst Letter.cells v_0.Post,lst Vote.cells v_0.Led]] 0 = .agg [lst Server.cells v_0.Servers,lst Letter.cells v_0.Post,
   lst Vote.cells v_0.Led]:=rfl
 generalize zb [.agg [lst Server.cells v_0.Servers,lst Letter.cells v_0.Post,lst Vote.cells v_0.Led]]=fr0 at zf0 ⊢
 have hS:Sep h (geL h.length) []:=Sep.nil h
 simp only [x53,qf,qd,yb,zf0,B0,reduceIte,reduceEqDiff]
 refine kg (cs:=[lst Server.cells v_0.Servers,lst Letter.cells v_0.Post,lst Vote.cells v_0.Led]) hS rfl rfl rfl (fun b1 h2 hS3=>?_)
 simp only [qe,qa,B0,reduceIte,reduceEqDiff]
 refine jb hS3 hW (by simp only [B0,reduceIte,reduceEqDiff]) (fun h5 hS6=>?_)
 simp only [z9,qs2,qf,qd,qp,qb,Nat.reduceAdd,Nat.zero_add,Nat.add_zero,qr,ql,B0,reduceIte,reduceEqDiff]
 refine qg (v:=lst Server.cells v_0.Servers) rfl ?_
 simp only [zn,qb,zt,jj,B0,reduceIte,reduceEqDiff]
 refine z8 hS6 (fun b7 h8 hS9=>?_)
 simp only [zg,B0,reduceIte,reduceEqDiff]
 refine qw (us:=[.int .i64 (List.length v_0.Servers:Int)]) rfl (cs':=[.int .i64 (List.length v_0.Servers:Int)]) hS9 hW rfl rfl (nle rfl) rfl (fun h11 hS12=>?_)
 simp only [qa,B0,reduceIte,reduceEqDiff]
 refine jb hS12 hW (by simp only [B0,reduceIte,reduceEqDiff]) (fun h13 hS14=>?_)
 simp only [z9,qu1,qf,qd,ql,B0,reduceIte,reduceEqDiff]
 refine qg (v := .int .i64 (List.length v_0.Servers:Int)) rfl ?_
 simp only [qz,B0,reduceIte,reduceEqDiff]
 refine jp rfl (qo zf (qo zf (qo zf zh))) (yk (fun b hb=>decide_eq_true hb) (List.length v_0.Servers:Int) 1 5 _ rfl) ?_
 simp only [js,qb,ki,qe,B0,reduceIte,reduceEqDiff]
 refine ja 5 (fun fr' h'=>Sep h' (geL h.length) ([])∧fr' 19 = .bool ((!(zk (List.length v_0.Servers:Int) 1 5))||(decide ((20:Int) <
   (List.length v_0.Post:Int))))∧fr' 1 = .ref [lst Server.cells v_0.Servers,lst Letter.cells v_0.Post,
   lst Vote.cells v_0.Led] 0∧fr' 3 = .ref [.int .i64 (List.length v_0.Servers:Int)] 0) (fun Q15 hN16=>?_) ?_
 ·simp only [List.take_succ_cons,List.take_zero]
  simp only [qc (g:=14),B0,reduceIte,reduceEqDiff]
  refine qy (t:=(!(zk (List.length v_0.Servers:Int) 1 5))) (fun hg17=>?_) (fun hg17=>?_)
  ·simp only [hg17,qc (g:=14),zq,qq,qb,zj,qa,qj,B0,reduceIte,reduceEqDiff]
   exact hN16 _ _ ⟨hS14,by rw [orT hg17]; simp only [B0,reduceIte,reduceEqDiff],rfl,rfl⟩
  ·simp only [hg17,qc (g:=14),qn,qp,qb,Nat.reduceAdd,Nat.zero_add,Nat.add_zero,qr,ql,B0,reduceIte,reduceEqDiff]
   refine qg (v:=lst Letter.cells v_0.Post) rfl ?_
   simp only [hg17,qc (g:=14),qn,zn,qb,zt,qv,xj,qq,zi,qa,qj,B0,reduceIte,reduceEqDiff]
   exact hN16 _ _ ⟨hS14,by rw [orF hg17]; simp only [B0,reduceIte,reduceEqDiff],rfl,rfl⟩
 rintro fr18 h22 ⟨hS23,f19,f20,f21⟩
 simp only [List.drop_succ_cons,List.drop_zero]
 simp only [f19,qe,B0,reduceIte,reduceEqDiff]
 refine ja 5 (fun fr' h'=>Sep h' (geL h.length) ([])∧fr' 25 = .bool (((!(zk (List.length v_0.Servers:Int) 1 5))||(decide ((20:Int) <
   (List.length v_0.Post:Int))))||(decide ((80:Int)<(List.length v_0.Led:Int))))∧fr' 1 = .ref [lst Server.cells v_0.Servers,lst Letter.cells v_0.Post,
   lst Vote.cells v_0.Led] 0∧fr' 3 = .ref [.int .i64 (List.length v_0.Servers:Int)] 0) (fun Q24 hN25=>?_) ?_
 ·simp only [List.take_succ_cons,List.take_zero]
  simp only [qc (g:=20),B0,reduceIte,reduceEqDiff]
  refine qy (t:=((!(zk (List.length v_0.Servers:Int) 1 5))||(decide ((20:Int)<(List.length v_0.Post:Int))))) (fun hg26=>?_) (fun hg26=>?_)
  ·simp only [hg26,qc (g:=20),zq,qq,qb,zj,qa,qj,B0,reduceIte,reduceEqDiff]
   exact hN25 _ _ ⟨hS23,by rw [orT hg26]; simp only [B0,reduceIte,reduceEqDiff],f20,f21⟩
  ·simp only [hg26,qc (g:=20),qn,f20,qp,qb,Nat.reduceAdd,Nat.zero_add,Nat.add_zero,qr,ql,B0,reduceIte,reduceEqDiff]
   refine qg (v:=lst Vote.cells v_0.Led) rfl ?_
   simp only [hg26,qc (g:=20),qn,zn,qb,zt,qv,xj,qq,zi,qa,qj,B0,reduceIte,reduceEqDiff]
   exact hN25 _ _ ⟨hS23,by rw [orF hg26]; simp only [B0,reduceIte,reduceEqDiff],f20,f21⟩
 rintro fr27 h31 ⟨hS32,f28,f29,f30⟩
 simp only [List.drop_succ_cons,List.drop_zero]
 simp only [qa,f28,za,B0,reduceIte,reduceEqDiff]
 refine q8 (t:=(((!(zk (List.length v_0.Servers:Int) 1 5))||(decide ((20:Int)<(List.length v_0.Post:Int))))||(decide ((80:Int) <
   (List.length v_0.Led:Int))))) (fun hc33=>?_) (fun hc33=>?_)
 ·rw [iteT hc33] at hF
  simp only [qf,qd,qe,qa,q9,B0,reduceIte,reduceEqDiff]
  have he:=qi hF
  subst he
  simp only [zl,B0,reduceIte,reduceEqDiff]
  exact rfl
 rw [iteF hc33] at hF
 simp only [zc,qqw,qf,qd,f29,qp,qb,Nat.reduceAdd,Nat.zero_add,Nat.add_zero,qr,ql,B0,reduceIte,reduceEqDiff]
 refine qg (v:=lst Server.cells v_0.Servers) rfl ?_
 simp only [zn,qb,zt,qe,qa,B0,reduceIte,reduceEqDiff]
 obtain ⟨oc36,hX38,hk39⟩:=kd hF
 simp only [qzu]
 refine wj (σ:=Unit) v_0.Servers (fun i34 x35 _=>qau v_0 i34 x35 ) (fun s fr' h'=>fr' 1 = .ref [lst Server.cells v_0.Servers,
   lst Letter.cells v_0.Post,lst Vote.cells v_0.Led] 0∧fr' 3 = .ref [.int .i64 (List.length v_0.Servers:Int)] 0∧fr' 27=lst Server.cells v_0.Servers∧Sep h'
   (geL h.length) ([])) hX38 ⟨f29,f30,rfl,hS32⟩ (by simp only [B0,reduceIte,reduceEqDiff]) (by simp only [B0,reduceIte,
   reduceEqDiff]) (fun _ _ _ h=>h) rfl rfl (fun _ _ _ _ h=>h) (fun _ _ _ _ h=>h) (fun _ _ _ _ h=>h) (by decide) ?_ ?_
 ·rintro i34 x35 _ fr48 h49 hx54 ⟨f51,f52,f53,hS50⟩ f55 f56 oc37 hF40 hr41 Q42 hN43 hB47 hK44 hR45 hE46
  unfold qau at hF40
  simp only [q04,qf,qd,f53,f55,jg,B0,reduceIte,reduceEqDiff]
  refine qg (v := .ref (Server.cells x35) 0) (wi hx54 rfl) ?_
  simp only [ql,B0,reduceIte,reduceEqDiff]
  refine qg (v := .agg [.int .i64 x35.Term,.int .i64 x35.Voted,.bool x35.Stands,.bool x35.Leads,lst cI x35.Got,lst cI x35.Log]) rfl ?_
  simp only [jj,B0,reduceIte,reduceEqDiff]
  refine z8 hS50 (fun b57 h58 hS59=>?_)
  simp only [zg,B0,reduceIte,reduceEqDiff]
  refine qw (us:=[.int .i64 x35.Term,.int .i64 x35.Voted,.bool x35.Stands,.bool x35.Leads,lst cI x35.Got,lst cI x35.Log]) rfl (cs':=[.int .i64 x35.Term,
    .int .i64 x35.Voted,.bool x35.Stands,.bool x35.Leads,lst cI x35.Got,lst cI x35.Log]) hS59 hW rfl rfl (nle rfl) rfl (fun h61 hS62=>?_)
  simp only [qa,B0,reduceIte,reduceEqDiff]
  refine jb hS62 hW (by simp only [B0,reduceIte,reduceEqDiff]) (fun h63 hS64=>?_)
  simp only [z9,qxz,qf,qd,qp,qb,Nat.reduceAdd,Nat.zero_add,Nat.add_zero,qr,ql,B0,reduceIte,reduceEqDiff]
  refine qg (v := .int .i64 x35.Term) rfl ?_
  simp only [qz,B0,reduceIte,reduceEqDiff]
  refine jp rfl (qo zf (qo zf (qo zf zh))) (yk (fun b hb=>decide_eq_true hb) x35.Term 0 100 _ rfl) ?_
  simp only [js,qb,ki,qe,B0,reduceIte,reduceEqDiff]
  refine ja 7 (fun fr' h'=>Sep h' (geL h.length) ([])∧fr' 44 = .bool ((!(zk x35.Term 0 100))||(!(zk x35.Voted (-1) (IntKind.wrap .i64
    ((List.length v_0.Servers:Int) - 1)))))∧fr' 1 = .ref [lst Server.cells v_0.Servers,lst Letter.cells v_0.Post,
    lst Vote.cells v_0.Led] 0∧fr' 3 = .ref [.int .i64 (List.length v_0.Servers:Int)] 0∧fr' 5 = .ref [.int .i64 x35.Term,.int .i64 x35.Voted,.bool x35.Stands,
    .bool x35.Leads,lst cI x35.Got,lst cI x35.Log] 0∧fr' 27=lst Server.cells v_0.Servers∧fr' 28 = .int .i64 (List.length v_0.Servers:Int)∧fr' 29 = .int .i64
    (i34:Int)) (fun Q65 hN66=>?_) ?_
  ·simp only [List.take_succ_cons,List.take_zero]
   simp only [qc (g:=37),B0,reduceIte,reduceEqDiff]
   refine qy (t:=(!(zk x35.Term 0 100))) (fun hg67=>?_) (fun hg67=>?_)
   ·simp only [hg67,qc (g:=37),zq,qq,qb,zj,qa,qj,B0,reduceIte,reduceEqDiff]
    exact hN66 _ _ ⟨hS64,by rw [orT hg67]; simp only [B0,reduceIte,reduceEqDiff],f51,f52,rfl,f53,f56,f55⟩
   ·simp only [hg67,qc (g:=37),qn,qp,qb,Nat.reduceAdd,Nat.zero_add,Nat.add_zero,qr,ql,B0,reduceIte,reduceEqDiff]
    refine qg (v := .int .i64 x35.Voted) rfl ?_
    simp only [hg67,qc (g:=37),qn,f52,ql,B0,reduceIte,reduceEqDiff]
    refine qg (v := .int .i64 (List.length v_0.Servers:Int)) rfl ?_
    simp only [hg67,qc (g:=37),qn,qv,qb,qbr,qz,B0,reduceIte,reduceEqDiff]
    refine jp rfl (qo zf (qo zf (qo zf zh))) (yk (fun b hb=>decide_eq_true hb) x35.Voted (-1) (IntKind.wrap .i64
      ((List.length v_0.Servers:Int) - 1)) _ rfl) ?_
    simp only [hg67,qc (g:=37),qn,js,qb,ki,qq,zi,qa,qj,B0,reduceIte,reduceEqDiff]
    exact hN66 _ _ ⟨hS64,by rw [orF hg67]; simp only [B0,reduceIte,reduceEqDiff],f51,f52,rfl,f53,f56,f55⟩
  rintro fr68 h76 ⟨hS77,f69,f70,f71,f72,f73,f74,f75⟩
  simp only [List.drop_succ_cons,List.drop_zero]
  simp only [f69,qe,B0,reduceIte,reduceEqDiff]
  refine ja 7 (fun fr' h'=>Sep h' (geL h.length) ([])∧fr' 52 = .bool (((!(zk x35.Term 0 100))||(!(zk x35.Voted (-1) (IntKind.wrap .i64
    ((List.length v_0.Servers:Int) - 1)))))||(x35.Stands&&x35.Leads))∧fr' 1 = .ref [lst Server.cells v_0.Servers,lst Letter.cells v_0.Post,
    lst Vote.cells v_0.Led] 0∧fr' 3 = .ref [.int .i64 (List.length v_0.Servers:Int)] 0∧fr' 5 = .ref [.int .i64 x35.Term,.int .i64 x35.Voted,.bool x35.Stands,
    .bool x35.Leads,lst cI x35.Got,lst cI x35.Log] 0∧fr' 27=lst Server.cells v_0.Servers∧fr' 28 = .int .i64 (List.length v_0.Servers:Int)∧fr' 29 = .int .i64
    (i34:Int)) (fun Q78 hN79=>?_) ?_
  ·simp only [List.take_succ_cons,List.take_zero]
   simp only [qc (g:=45),B0,reduceIte,reduceEqDiff]
   refine qy (t:=((!(zk x35.Term 0 100))||(!(zk x35.Voted (-1) (IntKind.wrap .i64 ((List.length v_0.Servers:Int) - 1)))))) (fun hg80=>?_)
     (fun hg80=>?_)
   ·simp only [hg80,qc (g:=45),zq,qc (g:=48),y9,qq,qb,zj,qa,qj,B0,reduceIte,reduceEqDiff]
    exact hN79 _ _ ⟨hS77,by rw [orT hg80]; simp only [B0,reduceIte,reduceEqDiff],f70,f71,f72,f73,f74,f75⟩
   ·simp only [hg80,qc (g:=45),qn,f72,qp,qb,Nat.reduceAdd,Nat.zero_add,Nat.add_zero,qr,ql,B0,reduceIte,reduceEqDiff]
    refine qg (v := .bool x35.Stands) rfl ?_
    simp only [hg80,qc (g:=45),qn,qe,B0,reduceIte,reduceEqDiff]
    refine ja 3 (fun fr' h'=>Sep h' (geL h.length) ([])∧fr' 51 = .bool (x35.Stands&&x35.Leads)∧fr' 1 = .ref [lst Server.cells v_0.Servers,
      lst Letter.cells v_0.Post,lst Vote.cells v_0.Led] 0∧fr' 3 = .ref [.int .i64 (List.length v_0.Servers:Int)] 0∧fr' 5 = .ref [.int .i64 x35.Term,
      .int .i64 x35.Voted,.bool x35.Stands,.bool x35.Leads,lst cI x35.Got,
      lst cI x35.Log] 0∧fr' 27=lst Server.cells v_0.Servers∧fr' 28 = .int .i64 (List.length v_0.Servers:Int)∧fr' 29 = .int .i64 (i34:Int)∧fr' 45 = .bool
      ((!(zk x35.Term 0 100))||(!(zk x35.Voted (-1) (IntKind.wrap .i64 ((List.length v_0.Servers:Int) - 1)))))) (fun Q81 hN82=>?_) ?_
    ·simp only [List.take_succ_cons,List.take_zero]
     simp only [qc (g:=48),B0,reduceIte,reduceEqDiff]
     refine qy (t:=x35.Stands) (fun hg83=>?_) (fun hg83=>?_)
     ·simp only [hg83,qc (g:=48),ze,f72,qp,qb,Nat.reduceAdd,Nat.zero_add,Nat.add_zero,qr,ql,B0,reduceIte,reduceEqDiff]
      refine qg (v := .bool x35.Leads) rfl ?_
      simp only [hg80,qc (g:=45),qn,hg83,qq,qb,zj,qa,qj,B0,reduceIte,reduceEqDiff]
      exact hN82 _ _ ⟨hS77,by rw [qba hg83]; simp only [B0,reduceIte,reduceEqDiff],f70,f71,by simp only [f72,B0,reduceIte,reduceEqDiff,hg83],f73,f74,f75,
        by simp only [hg80,B0,reduceIte,reduceEqDiff]⟩
     ·simp only [hg83,qc (g:=48),jv,hg80,qc (g:=45),qn,qq,qb,zi,qa,qj,B0,reduceIte,
       reduceEqDiff]
      exact hN82 _ _ ⟨hS77,by rw [qbf hg83]; simp only [B0,reduceIte,reduceEqDiff],f70,f71,by simp only [f72,B0,reduceIte,reduceEqDiff,hg83],f73,f74,f75,
        by simp only [hg80,B0,reduceIte,reduceEqDiff]⟩
    rintro fr84 h93 ⟨hS94,f85,f86,f87,f88,f89,f90,f91,f92⟩
    simp only [List.drop_succ_cons,List.drop_zero]
    simp only [f92,hg80,qq,qb,zi,f85,qa,qj,B0,reduceIte,reduceEqDiff]
    exact hN79 _ _ ⟨hS94,by rw [orF hg80]; simp only [B0,reduceIte,reduceEqDiff],f86,f87,f88,f89,f90,f91⟩
  rintro fr95 h103 ⟨hS104,f96,f97,f98,f99,f100,f101,f102⟩
  simp only [List.drop_succ_cons,List.drop_zero]
  simp only [f96,qe,B0,reduceIte,reduceEqDiff]
  obtain ⟨v108,hx109,hF110⟩:=qh hF40
  refine ja 6 (fun fr' h'=>Sep h' (geL h.length) ([])∧fr' 59 = .bool v108∧fr' 1 = .ref [lst Server.cells v_0.Servers,lst Letter.cells v_0.Post,
    lst Vote.cells v_0.Led] 0∧fr' 3 = .ref [.int .i64 (List.length v_0.Servers:Int)] 0∧fr' 5 = .ref [.int .i64 x35.Term,.int .i64 x35.Voted,.bool x35.Stands,
    .bool x35.Leads,lst cI x35.Got,lst cI x35.Log] 0∧fr' 27=lst Server.cells v_0.Servers∧fr' 28 = .int .i64 (List.length v_0.Servers:Int)∧fr' 29 = .int .i64
    (i34:Int)) (fun Q105 hN106=>?_) ?_
  ·simp only [List.take_succ_cons,List.take_zero]
   simp only [qc (g:=53),B0,reduceIte,reduceEqDiff]
   refine qy (t:=(((!(zk x35.Term 0 100))||(!(zk x35.Voted (-1) (IntKind.wrap .i64 ((List.length v_0.Servers:Int) - 1))))) ||
     (x35.Stands&&x35.Leads))) (fun hg107=>?_) (fun hg107=>?_)
   ·rw [iteT hg107] at hx109
    simp only [hg107,qc (g:=53),zq,qq,qb,zj,qa,qj,B0,reduceIte,reduceEqDiff]
    have e111:=qi hx109
    exact hN106 _ _ ⟨hS104,by rw [←e111]; simp only [B0,reduceIte,reduceEqDiff],f97,f98,f99,f100,f101,f102⟩
   ·rw [iteF hg107] at hx109
    simp only [hg107,qc (g:=53),qn,f99,qp,qb,Nat.reduceAdd,Nat.zero_add,Nat.add_zero,qr,ql,B0,reduceIte,reduceEqDiff]
    refine qg (v:=lst cI x35.Got) rfl ?_
    simp only [hg107,qc (g:=53),qn,f98,ql,B0,reduceIte,reduceEqDiff]
    refine qg (v := .int .i64 (List.length v_0.Servers:Int)) rfl ?_
    obtain ⟨v112,hx113,hF114⟩:=qh hx109
    simp only [hg107,qc (g:=53),qn,qz,B0,reduceIte,reduceEqDiff]
    refine jp rfl (qo ji (qo zf zh)) (qid (fun b hb=>decide_eq_true hb) x35.Got (List.length v_0.Servers:Int) v112 hx113) ?_
    simp only [hg107,qc (g:=53),qn,js,qb,ki,qq,zi,qa,qj,B0,reduceIte,reduceEqDiff]
    have e115:=qi hF114
    exact hN106 _ _ ⟨hS104,by rw [←e115]; simp only [B0,reduceIte,reduceEqDiff],f97,f98,f99,f100,f101,f102⟩
  rintro fr116 h124 ⟨hS125,f117,f118,f119,f120,f121,f122,f123⟩
  simp only [List.drop_succ_cons,List.drop_zero]
  simp only [f117,qe,B0,reduceIte,reduceEqDiff]
  refine ja 15 (fun fr' h'=>Sep h' (geL h.length) ([])∧fr' 75 = .bool (v108||(((!x35.Stands)&&(!x35.Leads))&&(decide ((0:Int) <
    (List.length x35.Got:Int)))))∧fr' 1 = .ref [lst Server.cells v_0.Servers,lst Letter.cells v_0.Post,
    lst Vote.cells v_0.Led] 0∧fr' 3 = .ref [.int .i64 (List.length v_0.Servers:Int)] 0∧fr' 5 = .ref [.int .i64 x35.Term,.int .i64 x35.Voted,.bool x35.Stands,
    .bool x35.Leads,lst cI x35.Got,lst cI x35.Log] 0∧fr' 27=lst Server.cells v_0.Servers∧fr' 28 = .int .i64 (List.length v_0.Servers:Int)∧fr' 29 = .int .i64
    (i34:Int)) (fun Q126 hN127=>?_) ?_
  ·simp only [List.take_succ_cons,List.take_zero]
   simp only [qc (g:=60),B0,reduceIte,reduceEqDiff]
   refine qy (t:=v108) (fun hg128=>?_) (fun hg128=>?_)
   ·simp only [hg128,qc (g:=60),zq,qc (g:=64),y9,qc (g:=69),qq,qb,zj,qa,qj,B0,reduceIte,
     reduceEqDiff]
    exact hN127 _ _ ⟨hS125,by rw [orT hg128]; simp only [B0,reduceIte,reduceEqDiff],f118,f119,f120,f121,f122,f123⟩
   ·simp only [hg128,qc (g:=60),qn,f120,qp,qb,Nat.reduceAdd,Nat.zero_add,Nat.add_zero,qr,ql,B0,reduceIte,reduceEqDiff]
    refine qg (v := .bool x35.Stands) rfl ?_
    simp only [hg128,qc (g:=60),qn,js,qb,ki,qe,B0,reduceIte,reduceEqDiff]
    refine ja 4 (fun fr' h'=>Sep h' (geL h.length) ([])∧fr' 68 = .bool ((!x35.Stands)&&(!x35.Leads))∧fr' 1 = .ref [lst Server.cells v_0.Servers,
      lst Letter.cells v_0.Post,lst Vote.cells v_0.Led] 0∧fr' 3 = .ref [.int .i64 (List.length v_0.Servers:Int)] 0∧fr' 5 = .ref [.int .i64 x35.Term,
      .int .i64 x35.Voted,.bool x35.Stands,.bool x35.Leads,lst cI x35.Got,
      lst cI x35.Log] 0∧fr' 27=lst Server.cells v_0.Servers∧fr' 28 = .int .i64 (List.length v_0.Servers:Int)∧fr' 29 = .int .i64 (i34:Int)∧fr' 60 = .bool v108)
      (fun Q129 hN130=>?_) ?_
    ·simp only [List.take_succ_cons,List.take_zero]
     simp only [qc (g:=64),B0,reduceIte,reduceEqDiff]
     refine qy (t:=(!x35.Stands)) (fun hg131=>?_) (fun hg131=>?_)
     ·simp only [hg131,qc (g:=64),ze,f120,qp,qb,Nat.reduceAdd,Nat.zero_add,Nat.add_zero,qr,ql,B0,reduceIte,reduceEqDiff]
      refine qg (v := .bool x35.Leads) rfl ?_
      simp only [hg131,qc (g:=64),ze,js,qb,ki,hg128,qc (g:=60),qn,qq,zj,qa,qj,B0,
        reduceIte,reduceEqDiff]
      exact hN130 _ _ ⟨hS125,by rw [qba hg131]; simp only [B0,reduceIte,reduceEqDiff],f118,f119,f120,f121,f122,f123,by simp only [hg128,B0,reduceIte,
        reduceEqDiff]⟩
     ·simp only [hg131,qc (g:=64),jv,hg128,qc (g:=60),qn,qq,qb,zi,qa,qj,B0,reduceIte,
       reduceEqDiff]
      exact hN130 _ _ ⟨hS125,by rw [qbf hg131]; simp only [B0,reduceIte,reduceEqDiff],f118,f119,f120,f121,f122,f123,by simp only [hg128,B0,reduceIte,
        reduceEqDiff]⟩
    rintro fr132 h141 ⟨hS142,f133,f134,f135,f136,f137,f138,f139,f140⟩
    simp only [List.drop_succ_cons,List.drop_zero]
    simp only [f140,hg128,qc (g:=60),qn,f133,qe,B0,reduceIte,reduceEqDiff]
    refine ja 5 (fun fr' h'=>Sep h' (geL h.length) ([])∧fr' 74 = .bool (((!x35.Stands)&&(!x35.Leads))&&(decide ((0:Int) <
      (List.length x35.Got:Int))))∧fr' 1 = .ref [lst Server.cells v_0.Servers,lst Letter.cells v_0.Post,
      lst Vote.cells v_0.Led] 0∧fr' 3 = .ref [.int .i64 (List.length v_0.Servers:Int)] 0∧fr' 5 = .ref [.int .i64 x35.Term,.int .i64 x35.Voted,.bool x35.Stands,
      .bool x35.Leads,lst cI x35.Got,lst cI x35.Log] 0∧fr' 27=lst Server.cells v_0.Servers∧fr' 28 = .int .i64 (List.length v_0.Servers:Int)∧fr' 29 = .int .i64
      (i34:Int)∧fr' 60 = .bool v108) (fun Q143 hN144=>?_) ?_
    ·simp only [List.take_succ_cons,List.take_zero]
     simp only [qc (g:=69),B0,reduceIte,reduceEqDiff]
     refine qy (t:=((!x35.Stands)&&(!x35.Leads))) (fun hg145=>?_) (fun hg145=>?_)
     ·simp only [hg145,qc (g:=69),ze,f136,qp,qb,Nat.reduceAdd,Nat.zero_add,Nat.add_zero,qr,ql,B0,reduceIte,reduceEqDiff]
      refine qg (v:=lst cI x35.Got) rfl ?_
      simp only [hg145,qc (g:=69),ze,zn,qb,zt,qv,xj,f140,hg128,qc (g:=60),qn,qq,zj,
        qa,qj,B0,reduceIte,reduceEqDiff]
      exact hN144 _ _ ⟨hS142,by rw [qba hg145]; simp only [B0,reduceIte,reduceEqDiff],f134,f135,f136,f137,f138,f139,by simp only [f140,hg128,B0,reduceIte,
        reduceEqDiff]⟩
     ·simp only [hg145,qc (g:=69),jv,f140,hg128,qc (g:=60),qn,qq,qb,zi,qa,qj,B0,reduceIte,
       reduceEqDiff]
      exact hN144 _ _ ⟨hS142,by rw [qbf hg145]; simp only [B0,reduceIte,reduceEqDiff],f134,f135,f136,f137,f138,f139,by simp only [f140,hg128,B0,reduceIte,
        reduceEqDiff]⟩
    rintro fr146 h155 ⟨hS156,f147,f148,f149,f150,f151,f152,f153,f154⟩
    simp only [List.drop_succ_cons,List.drop_zero]
    simp only [f154,hg128,qq,qb,zi,f147,qa,qj,B0,reduceIte,reduceEqDiff]
    exact hN127 _ _ ⟨hS156,by rw [orF hg128]; simp only [B0,reduceIte,reduceEqDiff],f148,f149,f150,f151,f152,f153⟩
  rintro fr157 h165 ⟨hS166,f158,f159,f160,f161,f162,f163,f164⟩
  simp only [List.drop_succ_cons,List.drop_zero]
  simp only [f158,qe,B0,reduceIte,reduceEqDiff]
  obtain ⟨v170,hx171,hF172⟩:=qh hF110
  refine ja 5 (fun fr' h'=>Sep h' (geL h.length) ([])∧fr' 81 = .bool v170∧fr' 1 = .ref [lst Server.cells v_0.Servers,lst Letter.cells v_0.Post,
    lst Vote.cells v_0.Led] 0∧fr' 3 = .ref [.int .i64 (List.length v_0.Servers:Int)] 0∧fr' 27=lst Server.cells v_0.Servers∧fr' 28 = .int .i64
    (List.length v_0.Servers:Int)∧fr' 29 = .int .i64 (i34:Int)) (fun Q167 hN168=>?_) ?_
  ·simp only [List.take_succ_cons,List.take_zero]
   simp only [qc (g:=76),B0,reduceIte,reduceEqDiff]
   refine qy (t:=(v108||(((!x35.Stands)&&(!x35.Leads))&&(decide ((0:Int)<(List.length x35.Got:Int)))))) (fun hg169=>?_) (fun hg169=>?_)
   ·rw [iteT hg169] at hx171
    simp only [hg169,qc (g:=76),zq,qq,qb,zj,qa,qj,B0,reduceIte,reduceEqDiff]
    have e173:=qi hx171
    exact hN168 _ _ ⟨hS166,by rw [←e173]; simp only [B0,reduceIte,reduceEqDiff],f159,f160,f162,f163,f164⟩
   ·rw [iteF hg169] at hx171
    simp only [hg169,qc (g:=76),qn,f161,qp,qb,Nat.reduceAdd,Nat.zero_add,Nat.add_zero,qr,ql,B0,reduceIte,reduceEqDiff]
    refine qg (v:=lst cI x35.Log) rfl ?_
    obtain ⟨v174,hx175,hF176⟩:=qh hx171
    simp only [hg169,qc (g:=76),qn,qz,B0,reduceIte,reduceEqDiff]
    refine jp rfl (qo ji zh) (qe9 (fun b hb=>decide_eq_true hb) x35.Log v174 hx175) ?_
    simp only [hg169,qc (g:=76),qn,js,qb,ki,qq,zi,qa,qj,B0,reduceIte,reduceEqDiff]
    have e177:=qi hF176
    exact hN168 _ _ ⟨hS166,by rw [←e177]; simp only [B0,reduceIte,reduceEqDiff],f159,f160,f162,f163,f164⟩
  rintro fr178 h185 ⟨hS186,f179,f180,f181,f182,f183,f184⟩
  simp only [List.drop_succ_cons,List.drop_zero]
  simp only [qa,f179,za,B0,reduceIte,reduceEqDiff]
  refine q8 (t:=v170) (fun hc187=>?_) (fun hc187=>?_)
  ·rw [iteT hc187] at hF172
   simp only [qf,qd,qe,qa,q9,B0,reduceIte,reduceEqDiff]
   have e188:=qi hF172
   subst e188
   have ho189:=hr41 _ rfl
   have hk190:=hk39
   rw [ho189] at hk190
   dsimp only [jnO] at hk190
   apply hR45
   have he:=qi hk190
   subst he
   simp only [zl,B0,reduceIte,reduceEqDiff]
   exact rfl
  rw [iteF hc187] at hF172
  simp only [zc,qj,B0,reduceIte,reduceEqDiff]
  have e191:=qi hF172
  exact hN43 _ _ _ e191.symm ⟨f180,f181,f182,hS186⟩ (f184) (f183)
 rintro _ fr193 h194 rfl ⟨f196,f197,f198,hS195⟩
 dsimp only [jnO] at hk39
 unfold qcg at hk39
 simp only [qu3,qf,qd,f196,qp,qb,Nat.reduceAdd,Nat.zero_add,Nat.add_zero,qr,ql,B0,reduceIte,reduceEqDiff]
 refine qg (v:=lst Letter.cells v_0.Post) rfl ?_
 simp only [zn,qb,zt,qe,qa,B0,reduceIte,reduceEqDiff]
 obtain ⟨oc201,hX203,hk204⟩:=kd hk39
 simp only [qyi]
 refine wj (σ:=Unit) v_0.Post (fun i199 x200 _=>qav v_0 i199 x200 ) (fun s fr' h'=>fr' 1 = .ref [lst Server.cells v_0.Servers,
   lst Letter.cells v_0.Post,lst Vote.cells v_0.Led] 0∧fr' 3 = .ref [.int .i64 (List.length v_0.Servers:Int)] 0∧fr' 84=lst Letter.cells v_0.Post∧Sep h'
   (geL h.length) ([])) hX203 ⟨f196,f197,rfl,hS195⟩ (by simp only [B0,reduceIte,reduceEqDiff]) (by simp only [B0,reduceIte,
   reduceEqDiff]) (fun _ _ _ h=>h) rfl rfl (fun _ _ _ _ h=>h) (fun _ _ _ _ h=>h) (fun _ _ _ _ h=>h) (by decide) ?_ ?_
 ·rintro i199 x200 _ fr213 h214 hx219 ⟨f216,f217,f218,hS215⟩ f220 f221 oc202 hF205 hr206 Q207 hN208 hB212 hK209 hR210 hE211
  unfold qav at hF205
  simp only [qx5,qf,qd,f218,f220,jg,B0,reduceIte,reduceEqDiff]
  refine qg (v := .ref (Letter.cells x200) 0) (wi hx219 rfl) ?_
  simp only [ql,B0,reduceIte,reduceEqDiff]
  refine qg (v := .agg [.int .i64 x200.To,.int .i64 x200.From,.int .i64 x200.Term,.bool x200.Asks,.int .i64 x200.Last,.int .i64 x200.Long,.bool x200.Grant]) rfl ?_
  simp only [jj,B0,reduceIte,reduceEqDiff]
  refine z8 hS215 (fun b222 h223 hS224=>?_)
  simp only [zg,B0,reduceIte,reduceEqDiff]
  refine qw (us:=[.int .i64 x200.To,.int .i64 x200.From,.int .i64 x200.Term,.bool x200.Asks,.int .i64 x200.Last,.int .i64 x200.Long,
    .bool x200.Grant]) rfl (cs':=[.int .i64 x200.To,.int .i64 x200.From,.int .i64 x200.Term,.bool x200.Asks,.int .i64 x200.Last,.int .i64 x200.Long,
    .bool x200.Grant]) hS224 hW rfl rfl (nle rfl) rfl (fun h226 hS227=>?_)
  simp only [qa,B0,reduceIte,reduceEqDiff]
  refine jb hS227 hW (by simp only [B0,reduceIte,reduceEqDiff]) (fun h228 hS229=>?_)
  simp only [z9,qwo,qf,jr,zx,qk,Nat.reduceAdd,Nat.zero_add,Nat.add_zero,qr,zv,B0,reduceIte,reduceEqDiff]
  refine qu (v := .int .i64 x200.To) rfl ?_
  simp only [f217,zv,B0,reduceIte,reduceEqDiff]
  refine qu (v := .int .i64 (List.length v_0.Servers:Int)) rfl ?_
  simp only [xw,qk,qbr,ut,B0,reduceIte,reduceEqDiff]
  refine qgs rfl (qo zf (qo zf (qo zf zh))) (yk (fun b hb=>decide_eq_true hb) x200.To 0 (IntKind.wrap .i64
    ((List.length v_0.Servers:Int) - 1)) _ rfl) ?_
  simp only [qh9,qk,ki,zw,B0,reduceIte,reduceEqDiff]
  simp only [qx (g:=96),B0,reduceIte,reduceEqDiff]
  refine kj (t:=(!(zk x200.To 0 (IntKind.wrap .i64 ((List.length v_0.Servers:Int) - 1))))) (fun hg230=>?_) (fun hg230=>?_)
  ·rw [iteT hg230] at hF205
   simp only [hg230,qx (g:=96),w7,j8,qk,zj,zw,qx (g:=104),qx (g:=111),zd,za,qkm,
     qf,qd,qe,qa,q9,B0,reduceIte,reduceEqDiff]
   have e231:=qi hF205
   subst e231
   have ho232:=hr206 _ rfl
   have hk233:=hk204
   rw [ho232] at hk233
   dsimp only [jnO] at hk233
   apply hR210
   have he:=qi hk233
   subst he
   simp only [zl,B0,reduceIte,reduceEqDiff]
   exact rfl
  rw [iteF hg230] at hF205
  simp only [hg230,qx (g:=96),zy,zx,qk,Nat.reduceAdd,Nat.zero_add,Nat.add_zero,qr,zv,B0,reduceIte,reduceEqDiff]
  refine qu (v := .int .i64 x200.From) rfl ?_
  simp only [hg230,qx (g:=96),zy,f217,zv,B0,reduceIte,reduceEqDiff]
  refine qu (v := .int .i64 (List.length v_0.Servers:Int)) rfl ?_
  simp only [hg230,qx (g:=96),zy,xw,qk,qbr,ut,B0,reduceIte,reduceEqDiff]
  refine qgs rfl (qo zf (qo zf (qo zf zh))) (yk (fun b hb=>decide_eq_true hb) x200.From 0 (IntKind.wrap .i64
    ((List.length v_0.Servers:Int) - 1)) _ rfl) ?_
  simp only [hg230,qx (g:=96),zy,qh9,qk,ki,j8,zi,zw,B0,reduceIte,reduceEqDiff]
  refine qbv 6 (fun fr' h'=>Sep h' (geL h.length) ([])∧fr' 110 = .bool ((!(zk x200.From 0 (IntKind.wrap .i64 ((List.length v_0.Servers:Int) - 1))))||(decide
    (x200.To=x200.From)))∧fr' 1 = .ref [lst Server.cells v_0.Servers,lst Letter.cells v_0.Post,
    lst Vote.cells v_0.Led] 0∧fr' 3 = .ref [.int .i64 (List.length v_0.Servers:Int)] 0∧fr' 7 = .ref [.int .i64 x200.To,.int .i64 x200.From,.int .i64 x200.Term,
    .bool x200.Asks,.int .i64 x200.Last,.int .i64 x200.Long,
    .bool x200.Grant] 0∧fr' 84=lst Letter.cells v_0.Post∧fr' 85 = .int .i64 (List.length v_0.Post:Int)∧fr' 86 = .int .i64 (i199:Int)) rfl (fun Q234 hN235=>?_) ?_
  ·simp only [List.take_succ_cons,List.take_zero]
   simp only [qx (g:=104),B0,reduceIte,reduceEqDiff]
   refine kj (t:=(!(zk x200.From 0 (IntKind.wrap .i64 ((List.length v_0.Servers:Int) - 1))))) (fun hg236=>?_) (fun hg236=>?_)
   ·simp only [hg236,qx (g:=104),w7,j8,qk,zj,zd,qj,B0,reduceIte,reduceEqDiff]
    exact hN235 _ _ ⟨hS229,by rw [orT hg236]; simp only [B0,reduceIte,reduceEqDiff],f216,f217,rfl,f218,f221,f220⟩
   ·simp only [hg236,qx (g:=104),zy,zx,qk,Nat.reduceAdd,Nat.zero_add,Nat.add_zero,qr,zv,B0,reduceIte,reduceEqDiff]
    refine qu (v := .int .i64 x200.To) rfl ?_
    simp only [hg236,qx (g:=104),zy,zx,qk,Nat.reduceAdd,Nat.zero_add,Nat.add_zero,qr,zv,B0,reduceIte,reduceEqDiff]
    refine qu (v := .int .i64 x200.From) rfl ?_
    simp only [hg236,qx (g:=104),zy,xw,qk,yo,j8,zi,zd,qj,B0,reduceIte,reduceEqDiff]
    exact hN235 _ _ ⟨hS229,by rw [orF hg236]; simp only [B0,reduceIte,reduceEqDiff],f216,f217,rfl,f218,f221,f220⟩
  rintro fr237 h245 ⟨hS246,f238,f239,f240,f241,f242,f243,f244⟩
  simp only [List.drop_succ_cons,List.drop_zero]
  simp only [f238,zw,qk,B0,reduceIte,reduceEqDiff]
  simp only [qx (g:=111),B0,reduceIte,reduceEqDiff]
  refine kj (t:=((!(zk x200.From 0 (IntKind.wrap .i64 ((List.length v_0.Servers:Int) - 1))))||(decide (x200.To=x200.From)))) (fun hg247=>?_)
    (fun hg247=>?_)
  ·rw [iteT hg247] at hF205
   simp only [hg247,qx (g:=111),w7,j8,qk,zj,zd,za,qkm,qf,qd,qe,qa,q9,B0,
     reduceIte,reduceEqDiff]
   have e248:=qi hF205
   subst e248
   have ho249:=hr206 _ rfl
   have hk250:=hk204
   rw [ho249] at hk250
   dsimp only [jnO] at hk250
   apply hR210
   have he:=qi hk250
   subst he
   simp only [zl,B0,reduceIte,reduceEqDiff]
   exact rfl
  rw [iteF hg247] at hF205
  simp only [hg247,qx (g:=111),zy,f241,zx,qk,Nat.reduceAdd,Nat.zero_add,Nat.add_zero,qr,zv,B0,reduceIte,reduceEqDiff]
  refine qu (v := .int .i64 x200.Term) rfl ?_
  simp only [hg247,qx (g:=111),zy,f239,zx,qk,Nat.reduceAdd,Nat.zero_add,Nat.add_zero,qr,zv,B0,reduceIte,reduceEqDiff]
  refine qu (v:=lst Server.cells v_0.Servers) rfl ?_
  simp only [hg247,qx (g:=111),zy,f241,zx,qk,Nat.reduceAdd,Nat.zero_add,Nat.add_zero,qr,zv,B0,reduceIte,reduceEqDiff]
  refine qu (v := .int .i64 x200.From) rfl ?_
  obtain ⟨x251,hx252,hF253⟩:=qh hF205
  simp only [hg247,qx (g:=111),zy,qdg,B0,reduceIte,reduceEqDiff]
  refine qu (v := .ref (Server.cells x251) 0) (yg hx252 rfl) ?_
  simp only [hg247,qx (g:=111),zy,zx,qk,Nat.reduceAdd,Nat.zero_add,Nat.add_zero,qr,zv,B0,reduceIte,reduceEqDiff]
  refine qu (v := .int .i64 x251.Term) rfl ?_
  simp only [hg247,qx (g:=111),zy,ut,B0,reduceIte,reduceEqDiff]
  refine qgs rfl (qo zf (qo zf (qo zf zh))) (yk (fun b hb=>decide_eq_true hb) x200.Term 0 x251.Term _ rfl) ?_
  simp only [hg247,qx (g:=111),zy,qh9,qk,ki,j8,zi,zd,za,B0,reduceIte,reduceEqDiff]
  refine q8 (t:=(!(zk x200.Term 0 x251.Term))) (fun hc254=>?_) (fun hc254=>?_)
  ·rw [iteT hc254] at hF253
   simp only [qf,qd,qe,qa,q9,B0,reduceIte,reduceEqDiff]
   have e255:=qi hF253
   subst e255
   have ho256:=hr206 _ rfl
   have hk257:=hk204
   rw [ho256] at hk257
   dsimp only [jnO] at hk257
   apply hR210
   have he:=qi hk257
   subst he
   simp only [zl,B0,reduceIte,reduceEqDiff]
   exact rfl
  rw [iteF hc254] at hF253
  simp only [zc,qxq,qf,qd,f241,qp,qb,Nat.reduceAdd,Nat.zero_add,Nat.add_zero,qr,ql,B0,reduceIte,reduceEqDiff]
  refine qg (v := .bool x200.Asks) rfl ?_
  simp only [qe,B0,reduceIte,reduceEqDiff]
  refine ja 15 (fun fr' h'=>Sep h' (geL h.length) ([])∧fr' 141 = .bool (x200.Asks&&((x200.Grant||(!(zk x200.Last (-1) 100))) ||
    (!(zk x200.Long 0 30))))∧fr' 1 = .ref [lst Server.cells v_0.Servers,lst Letter.cells v_0.Post,
    lst Vote.cells v_0.Led] 0∧fr' 3 = .ref [.int .i64 (List.length v_0.Servers:Int)] 0∧fr' 7 = .ref [.int .i64 x200.To,.int .i64 x200.From,.int .i64 x200.Term,
    .bool x200.Asks,.int .i64 x200.Last,.int .i64 x200.Long,
    .bool x200.Grant] 0∧fr' 84=lst Letter.cells v_0.Post∧fr' 85 = .int .i64 (List.length v_0.Post:Int)∧fr' 86 = .int .i64 (i199:Int)) (fun Q258 hN259=>?_) ?_
  ·simp only [List.take_succ_cons,List.take_zero]
   simp only [qc (g:=126),B0,reduceIte,reduceEqDiff]
   refine qy (t:=x200.Asks) (fun hg260=>?_) (fun hg260=>?_)
   ·simp only [hg260,qc (g:=126),ze,f241,qp,qb,Nat.reduceAdd,Nat.zero_add,Nat.add_zero,qr,ql,B0,reduceIte,reduceEqDiff]
    refine qg (v := .bool x200.Grant) rfl ?_
    simp only [hg260,qc (g:=126),ze,qe,B0,reduceIte,reduceEqDiff]
    refine ja 5 (fun fr' h'=>Sep h' (geL h.length) ([])∧fr' 134 = .bool (x200.Grant||(!(zk x200.Last (-1) 100)))∧fr' 1 = .ref [lst Server.cells v_0.Servers,
      lst Letter.cells v_0.Post,lst Vote.cells v_0.Led] 0∧fr' 3 = .ref [.int .i64 (List.length v_0.Servers:Int)] 0∧fr' 7 = .ref [.int .i64 x200.To,
      .int .i64 x200.From,.int .i64 x200.Term,.bool x200.Asks,.int .i64 x200.Last,.int .i64 x200.Long,
      .bool x200.Grant] 0∧fr' 84=lst Letter.cells v_0.Post∧fr' 85 = .int .i64 (List.length v_0.Post:Int)∧fr' 86 = .int .i64
      (i199:Int)∧fr' 126 = .bool x200.Asks) (fun Q261 hN262=>?_) ?_
    ·simp only [List.take_succ_cons,List.take_zero]
     simp only [qc (g:=129),B0,reduceIte,reduceEqDiff]
     refine qy (t:=x200.Grant) (fun hg263=>?_) (fun hg263=>?_)
     ·simp only [hg263,qc (g:=129),zq,hg260,qc (g:=126),ze,qq,qb,zj,qa,qj,B0,reduceIte,
       reduceEqDiff]
      exact hN262 _ _ ⟨hS246,by rw [orT hg263]; simp only [B0,reduceIte,reduceEqDiff],f239,f240,by simp only [f241,B0,reduceIte,reduceEqDiff,hg263],f242,f243,
        f244,by simp only [hg260,B0,reduceIte,reduceEqDiff]⟩
     ·simp only [hg263,qc (g:=129),qn,f241,qp,qb,Nat.reduceAdd,Nat.zero_add,Nat.add_zero,qr,ql,B0,reduceIte,reduceEqDiff]
      refine qg (v := .int .i64 x200.Last) rfl ?_
      simp only [hg263,qc (g:=129),qn,qz,B0,reduceIte,reduceEqDiff]
      refine jp rfl (qo zf (qo zf (qo zf zh))) (yk (fun b hb=>decide_eq_true hb) x200.Last (-1) 100 _ rfl) ?_
      simp only [hg263,qc (g:=129),qn,js,qb,ki,hg260,qc (g:=126),ze,qq,zi,qa,qj,B0,
        reduceIte,reduceEqDiff]
      exact hN262 _ _ ⟨hS246,by rw [orF hg263]; simp only [B0,reduceIte,reduceEqDiff],f239,f240,by simp only [f241,B0,reduceIte,reduceEqDiff,hg263],f242,f243,
        f244,by simp only [hg260,B0,reduceIte,reduceEqDiff]⟩
    rintro fr264 h273 ⟨hS274,f265,f266,f267,f268,f269,f270,f271,f272⟩
    simp only [List.drop_succ_cons,List.drop_zero]
    simp only [f272,hg260,qc (g:=126),ze,f265,qe,B0,reduceIte,reduceEqDiff]
    refine ja 5 (fun fr' h'=>Sep h' (geL h.length) ([])∧fr' 140 = .bool ((x200.Grant||(!(zk x200.Last (-1) 100))) ||
      (!(zk x200.Long 0 30)))∧fr' 1 = .ref [lst Server.cells v_0.Servers,lst Letter.cells v_0.Post,
      lst Vote.cells v_0.Led] 0∧fr' 3 = .ref [.int .i64 (List.length v_0.Servers:Int)] 0∧fr' 7 = .ref [.int .i64 x200.To,.int .i64 x200.From,.int .i64 x200.Term,
      .bool x200.Asks,.int .i64 x200.Last,.int .i64 x200.Long,
      .bool x200.Grant] 0∧fr' 84=lst Letter.cells v_0.Post∧fr' 85 = .int .i64 (List.length v_0.Post:Int)∧fr' 86 = .int .i64
      (i199:Int)∧fr' 126 = .bool x200.Asks) (fun Q275 hN276=>?_) ?_
    ·simp only [List.take_succ_cons,List.take_zero]
     simp only [qc (g:=135),B0,reduceIte,reduceEqDiff]
     refine qy (t:=(x200.Grant||(!(zk x200.Last (-1) 100)))) (fun hg277=>?_) (fun hg277=>?_)
     ·simp only [hg277,qc (g:=135),zq,f272,hg260,qc (g:=126),ze,qq,qb,zj,qa,qj,B0,reduceIte,
       reduceEqDiff]
      exact hN276 _ _ ⟨hS274,by rw [orT hg277]; simp only [B0,reduceIte,reduceEqDiff],f266,f267,f268,f269,f270,f271,by simp only [f272,hg260,B0,reduceIte,
        reduceEqDiff]⟩
     ·simp only [hg277,qc (g:=135),qn,f268,qp,qb,Nat.reduceAdd,Nat.zero_add,Nat.add_zero,qr,ql,B0,reduceIte,reduceEqDiff]
      refine qg (v := .int .i64 x200.Long) rfl ?_
      simp only [hg277,qc (g:=135),qn,qz,B0,reduceIte,reduceEqDiff]
      refine jp rfl (qo zf (qo zf (qo zf zh))) (yk (fun b hb=>decide_eq_true hb) x200.Long 0 30 _ rfl) ?_
      simp only [hg277,qc (g:=135),qn,js,qb,ki,f272,hg260,qc (g:=126),ze,qq,zi,qa,qj,
        B0,reduceIte,reduceEqDiff]
      exact hN276 _ _ ⟨hS274,by rw [orF hg277]; simp only [B0,reduceIte,reduceEqDiff],f266,f267,f268,f269,f270,f271,by simp only [f272,hg260,B0,reduceIte,
        reduceEqDiff]⟩
    rintro fr278 h287 ⟨hS288,f279,f280,f281,f282,f283,f284,f285,f286⟩
    simp only [List.drop_succ_cons,List.drop_zero]
    simp only [f286,hg260,qq,qb,zj,f279,qa,qj,B0,reduceIte,reduceEqDiff]
    exact hN259 _ _ ⟨hS288,by rw [qba hg260]; simp only [B0,reduceIte,reduceEqDiff],f280,f281,by simp only [f282,B0,reduceIte,reduceEqDiff,hg260],f283,f284,f285⟩
   ·simp only [hg260,qc (g:=126),jv,qc (g:=129),y9,qc (g:=135),qq,qb,zi,qa,qj,B0,
     reduceIte,reduceEqDiff]
    exact hN259 _ _ ⟨hS246,by rw [qbf hg260]; simp only [B0,reduceIte,reduceEqDiff],f239,f240,by simp only [f241,B0,reduceIte,reduceEqDiff,hg260],f242,f243,f244⟩
  rintro fr289 h297 ⟨hS298,f290,f291,f292,f293,f294,f295,f296⟩
  simp only [List.drop_succ_cons,List.drop_zero]
  simp only [f290,qe,B0,reduceIte,reduceEqDiff]
  refine ja 14 (fun fr' h'=>Sep h' (geL h.length) ([])∧fr' 156 = .bool ((x200.Asks&&((x200.Grant||(!(zk x200.Last (-1) 100))) ||
    (!(zk x200.Long 0 30))))||((!x200.Asks)&&((decide (x200.Last≠0))||(decide (x200.Long≠0)))))∧fr' 1 = .ref [lst Server.cells v_0.Servers,
    lst Letter.cells v_0.Post,lst Vote.cells v_0.Led] 0∧fr' 3 = .ref [.int .i64
    (List.length v_0.Servers:Int)] 0∧fr' 84=lst Letter.cells v_0.Post∧fr' 85 = .int .i64 (List.length v_0.Post:Int)∧fr' 86 = .int .i64 (i199:Int))
    (fun Q299 hN300=>?_) ?_
  ·simp only [List.take_succ_cons,List.take_zero]
   simp only [qc (g:=142),B0,reduceIte,reduceEqDiff]
   refine qy (t:=(x200.Asks&&((x200.Grant||(!(zk x200.Last (-1) 100)))||(!(zk x200.Long 0 30))))) (fun hg301=>?_) (fun hg301=>?_)
   ·simp only [hg301,qc (g:=142),zq,qc (g:=146),y9,qc (g:=150),qq,qb,zj,qa,qj,B0,
     reduceIte,reduceEqDiff]
    exact hN300 _ _ ⟨hS298,by rw [orT hg301]; simp only [B0,reduceIte,reduceEqDiff],f291,f292,f294,f295,f296⟩
   ·simp only [hg301,qc (g:=142),qn,f293,qp,qb,Nat.reduceAdd,Nat.zero_add,Nat.add_zero,qr,ql,B0,reduceIte,reduceEqDiff]
    refine qg (v := .bool x200.Asks) rfl ?_
    simp only [hg301,qc (g:=142),qn,js,qb,ki,qe,B0,reduceIte,reduceEqDiff]
    refine ja 9 (fun fr' h'=>Sep h' (geL h.length) ([])∧fr' 155 = .bool ((!x200.Asks)&&((decide (x200.Last≠0))||(decide
      (x200.Long≠0))))∧fr' 1 = .ref [lst Server.cells v_0.Servers,lst Letter.cells v_0.Post,
      lst Vote.cells v_0.Led] 0∧fr' 3 = .ref [.int .i64 (List.length v_0.Servers:Int)] 0∧fr' 84=lst Letter.cells v_0.Post∧fr' 85 = .int .i64
      (List.length v_0.Post:Int)∧fr' 86 = .int .i64 (i199:Int)∧fr' 142 = .bool (x200.Asks&&((x200.Grant||(!(zk x200.Last (-1) 100))) ||
      (!(zk x200.Long 0 30))))) (fun Q302 hN303=>?_) ?_
    ·simp only [List.take_succ_cons,List.take_zero]
     simp only [qc (g:=146),B0,reduceIte,reduceEqDiff]
     refine qy (t:=(!x200.Asks)) (fun hg304=>?_) (fun hg304=>?_)
     ·simp only [hg304,qc (g:=146),ze,f293,qp,qb,Nat.reduceAdd,Nat.zero_add,Nat.add_zero,qr,ql,B0,reduceIte,reduceEqDiff]
      refine qg (v := .int .i64 x200.Last) rfl ?_
      simp only [hg304,qc (g:=146),ze,qv,qb,qc6,qe,B0,reduceIte,reduceEqDiff]
      refine ja 4 (fun fr' h'=>Sep h' (geL h.length) ([])∧fr' 154 = .bool ((decide (x200.Last≠0))||(decide
        (x200.Long≠0)))∧fr' 1 = .ref [lst Server.cells v_0.Servers,lst Letter.cells v_0.Post,
        lst Vote.cells v_0.Led] 0∧fr' 3 = .ref [.int .i64 (List.length v_0.Servers:Int)] 0∧fr' 84=lst Letter.cells v_0.Post∧fr' 85 = .int .i64
        (List.length v_0.Post:Int)∧fr' 86 = .int .i64 (i199:Int)∧fr' 142 = .bool (x200.Asks&&((x200.Grant||(!(zk x200.Last (-1) 100))) ||
        (!(zk x200.Long 0 30))))∧fr' 146 = .bool (!x200.Asks)) (fun Q305 hN306=>?_) ?_
      ·simp only [List.take_succ_cons,List.take_zero]
       simp only [qc (g:=150),B0,reduceIte,reduceEqDiff]
       refine qy (t:=(decide (x200.Last≠0))) (fun hg307=>?_) (fun hg307=>?_)
       ·simp only [hg307,qc (g:=150),zq,hg304,qc (g:=146),ze,qq,qb,zj,qa,qj,B0,reduceIte,
         reduceEqDiff]
        exact hN306 _ _ ⟨hS298,by rw [orT hg307]; simp only [B0,reduceIte,reduceEqDiff],f291,f292,f294,f295,f296,by simp only [hg301,B0,reduceIte,
          reduceEqDiff],by simp only [hg304,B0,reduceIte,reduceEqDiff]⟩
       ·simp only [hg307,qc (g:=150),qn,f293,qp,qb,Nat.reduceAdd,Nat.zero_add,Nat.add_zero,qr,ql,B0,reduceIte,
         reduceEqDiff]
        refine qg (v := .int .i64 x200.Long) rfl ?_
        simp only [hg307,qc (g:=150),qn,qv,qb,qc6,hg304,qc (g:=146),ze,qq,zi,qa,qj,
          B0,reduceIte,reduceEqDiff]
        exact hN306 _ _ ⟨hS298,by rw [orF hg307]; simp only [B0,reduceIte,reduceEqDiff],f291,f292,f294,f295,f296,by simp only [hg301,B0,reduceIte,
          reduceEqDiff],by simp only [hg304,B0,reduceIte,reduceEqDiff]⟩
      rintro fr308 h317 ⟨hS318,f309,f310,f311,f312,f313,f314,f315,f316⟩
      simp only [List.drop_succ_cons,List.drop_zero]
      simp only [f315,hg301,qc (g:=142),qn,f316,hg304,qq,qb,zj,f309,qa,qj,B0,reduceIte,reduceEqDiff]
      exact hN303 _ _ ⟨hS318,by rw [qba hg304]; simp only [B0,reduceIte,reduceEqDiff],f310,f311,f312,f313,f314,by simp only [f315,hg301,B0,reduceIte,
        reduceEqDiff]⟩
     ·simp only [hg304,qc (g:=146),jv,qc (g:=150),y9,hg301,qc (g:=142),qn,qq,qb,zi,
       qa,qj,B0,reduceIte,reduceEqDiff]
      exact hN303 _ _ ⟨hS298,by rw [qbf hg304]; simp only [B0,reduceIte,reduceEqDiff],f291,f292,f294,f295,f296,by simp only [hg301,B0,reduceIte,reduceEqDiff]⟩
    rintro fr319 h327 ⟨hS328,f320,f321,f322,f323,f324,f325,f326⟩
    simp only [List.drop_succ_cons,List.drop_zero]
    simp only [f326,hg301,qq,qb,zi,f320,qa,qj,B0,reduceIte,reduceEqDiff]
    exact hN300 _ _ ⟨hS328,by rw [orF hg301]; simp only [B0,reduceIte,reduceEqDiff],f321,f322,f323,f324,f325⟩
  rintro fr329 h336 ⟨hS337,f330,f331,f332,f333,f334,f335⟩
  simp only [List.drop_succ_cons,List.drop_zero]
  simp only [qa,f330,za,B0,reduceIte,reduceEqDiff]
  refine q8 (t:=((x200.Asks&&((x200.Grant||(!(zk x200.Last (-1) 100)))||(!(zk x200.Long 0 30))))||((!x200.Asks)&&((decide (x200.Last≠0)) ||
    (decide (x200.Long≠0)))))) (fun hc338=>?_) (fun hc338=>?_)
  ·rw [iteT hc338] at hF253
   simp only [qf,qd,qe,qa,q9,B0,reduceIte,reduceEqDiff]
   have e339:=qi hF253
   subst e339
   have ho340:=hr206 _ rfl
   have hk341:=hk204
   rw [ho340] at hk341
   dsimp only [jnO] at hk341
   apply hR210
   have he:=qi hk341
   subst he
   simp only [zl,B0,reduceIte,reduceEqDiff]
   exact rfl
  rw [iteF hc338] at hF253
  simp only [zc,qj,B0,reduceIte,reduceEqDiff]
  have e342:=qi hF253
  exact hN208 _ _ _ e342.symm ⟨f331,f332,f333,hS337⟩ (f335) (f334)
 rintro _ fr344 h345 rfl ⟨f347,f348,f349,hS346⟩
 dsimp only [jnO] at hk204
 unfold qco at hk204
 simp only [qt3,qf,qd,f347,qp,qb,Nat.reduceAdd,Nat.zero_add,Nat.add_zero,qr,ql,B0,reduceIte,reduceEqDiff]
 refine qg (v:=lst Vote.cells v_0.Led) rfl ?_
 obtain ⟨v350,hx351,hF352⟩:=qh hk204
 simp only [qno,f348,qz,B0,reduceIte,reduceEqDiff]
 refine jp rfl (qo ji (qo qjw zh)) (qe3 (fun b hb=>decide_eq_true hb) v_0.Led (g1:=101) (caps1:=[.ref [.int .i64
   (List.length v_0.Servers:Int)] 0]) rfl (fun a0=>some (xh a0 (List.length v_0.Servers:Int))) (fun W h hW a0 r hr=>qho hW a0
   (List.length v_0.Servers:Int) r hr) v350 hx351) ?_
 simp only [js,qb,ki,qe,qa,q9,B0,reduceIte,reduceEqDiff]
 have he:=qi hF352
 subst he
 simp only [zl,B0,reduceIte,reduceEqDiff]
 exact rfl
end Go.Proofs.Ytpddolihbnfahaa.X
namespace Go.Proofs.Ytpddolihbnfahaa.X
open Go
open Nat (reduceEqDiff)
theorem qhl {W:Nat→Bool}{h:Heap} (hW:∀ b,
  (geL h.length) b→W b=true) (e_0:Election) (r:Election) (hF:uh e_0=some r) : Ret E W 93 [.agg [lst Server.cells e_0.Servers,
  lst Letter.cells e_0.Post,lst Vote.cells e_0.Led]] h (fun v h'=>∃ rv0_0 rc0_0 rv0_1 rc0_1 rv0_2 rc0_2,v = .agg [rv0_0,rv0_1,
  rv0_2]∧SlN Server.R 6 46 rv0_0 r.Servers rc0_0∧SlF Letter.cells 7 93 rv0_1 r.Post rc0_1∧SlF Vote.cells 2 39 rv0_2 r.Led rc0_2∧Sep h' (geL h.length) (rc0_0 ++
  (rc0_1++(rc0_2++([]))))):=by
 refine Ret.of (fn:=x93) rfl (Run.of ?_)
 unfold uh at hF
 have zf0:zb [.agg [lst Server.cells e_0.Servers,lst Letter.cells e_0.Post,lst Vote.cells e_0.Led]] 0 = .agg [lst Server.cells e_0.Servers,lst Letter.cells e_0.Post,
   lst Vote.cells e_0.Led]:=rfl
 generalize zb [.agg [lst Server.cells e_0.Servers,lst Letter.cells e_0.Post,lst Vote.cells e_0.Led]]=fr0 at zf0 ⊢
 have hS:Sep h (geL h.length) []:=Sep.nil h
 simp only [x93,qf,qd,yb,zf0,B0,reduceIte,reduceEqDiff]
 refine kg (cs:=[lst Server.cells e_0.Servers,lst Letter.cells e_0.Post,lst Vote.cells e_0.Led]) hS rfl rfl rfl (fun b1 h2 hS3=>?_)
 simp only [jj,B0,reduceIte,reduceEqDiff]
 refine z8 hS3 (fun b5 h6 hS7=>?_)
 simp only [qa,B0,reduceIte,reduceEqDiff]
 refine jb (Sep.m1 hS7) hW (by simp only [B0,reduceIte,reduceEqDiff]) (fun h9 hS10=>?_)
 simp only [z9,q1p,qf,jr,wt,evp,B0,reduceIte,reduceEqDiff]
 refine yy (n:=7) (f:=Letter.cells) ([] : List Letter) hS10 rfl rfl (fun v12 c13 h14 hv15 hS16 hq11=>?_)
 simp only [qkq,evp,B0,reduceIte,reduceEqDiff]
 refine qdd (n:=2) (f:=Vote.cells) ([] : List Vote) hS16 rfl rfl (fun v18 c19 h20 hv21 hS22=>?_)
 simp only [qmq,B0,reduceIte,reduceEqDiff]
 refine qgw hS22 (fun b24 h25 hS26=>?_)
 simp only [zx,qk,Nat.reduceAdd,Nat.zero_add,Nat.add_zero,qr,zv,B0,reduceIte,reduceEqDiff]
 refine qu (v:=lst Letter.cells e_0.Post) rfl ?_
 simp only [qgk,B0,reduceIte,reduceEqDiff]
 obtain ⟨l28,hx29,hF30⟩:=qh hF
 have hq31:=nwq (fun z hz=>Sep.dj (Sep.m3 (Sep.m3 hS26)) qeo (SlF.rowfp hv15 z hz))
 refine qjl qhr ?_
 refine yz (f:=Letter.cells) hv15 (Sep.m2 hS26) hW (fun _=>rfl) (fun _=>rfl) (w5 (fun _=>rfl)) hx29 (fun v32 c33 h34 hv35 hS36=>?_)
 simp only [qc0,qk,Nat.reduceAdd,Nat.zero_add,Nat.add_zero,qr,qb8,qgu,B0,reduceIte,reduceEqDiff]
 refine qu (v:=lst Vote.cells e_0.Led) rfl ?_
 simp only [qcr,B0,reduceIte,reduceEqDiff]
 obtain ⟨l38,hx39,hF40⟩:=qh hF30
 refine yz (f:=Vote.cells) hv21 (Sep.m2 hS36) hW (fun _=>rfl) (fun _=>rfl) (w5 (fun _=>rfl)) hx39 (fun v41 c42 h43 hv44 hS45=>?_)
 simp only [qa1,evp,B0,reduceIte,reduceEqDiff]
 refine qu (v := .agg [.nil,v32,v41]) (qc9 (uz (us:=[v32]) (vs:=[.nil,v32,
   .nil]) (jd (SlF.one hv35)) rfl (nle rfl) (qm (SlF.one hv35) zm) rfl (uz (us:=[v41]) (vs:=[.nil,v32,
   v41]) (jd (SlF.one hv44)) rfl (nle rfl) (qm (SlF.one hv44) zm) rfl qen))) ?_
 simp only [qcv,B0,reduceIte,reduceEqDiff]
 refine xe (us:=[.nil,v32,v41]) rfl (cs':=[.nil,v32,
   v41]) (Sep.m2 hS45) hW rfl (qm rfl (qm (SlF.one hv35) (qm (SlF.one hv44) zm))) (nle rfl) rfl (fun h47 hS48=>?_)
 simp only [zd,qxo,qf,qd,qp,qb,Nat.reduceAdd,Nat.zero_add,Nat.add_zero,qr,ql,B0,reduceIte,reduceEqDiff]
 refine qg (v:=lst Server.cells e_0.Servers) rfl ?_
 simp only [zn,qb,zt,qe,qa,B0,reduceIte,reduceEqDiff]
 obtain ⟨oc61,hX63,hk64⟩:=kd hF40
 simp only [qys]
 refine wj (σ:=Election) e_0.Servers (fun i59 x60 s140=>uo l28 l38 i59 x60 s140) (fun s fr' h'=>∃ v56 c57,
   fr' 2 = .ptr b5 0∧fr' 3 = .ptr b24 0∧fr' 16=lst Server.cells e_0.Servers∧SlN Server.R 6 46 v56 s.Servers c57∧Sep h' (geL h.length) ([Blk1 b5 [.nil,.nil,
   .nil] 31]++([Blk1 b24 [v56,v32,v41] 31]++(c57++(c33++(c42++([]))))))) hX63 ⟨.nil,[],rfl,rfl,rfl,SlN.nil,
   ((Sep.m3 (Sep.m2 (Sep.m2 (Sep.m1 hS48)))) : Sep _ (geL h.length) ([Blk1 b5 [.nil,.nil,.nil] 31]++([Blk1 b24 [.nil,v32,
   v41] 31]++(c33++(c42++([]))))))⟩ (by simp only [B0,reduceIte,reduceEqDiff]) (by simp only [B0,reduceIte,
   reduceEqDiff]) (fun _ _ _ h=>h) rfl rfl (fun _ _ _ _ h=>h) (fun _ _ _ _ h=>h) (fun _ _ _ _ h=>h) (by decide) ?_ ?_
 ·rintro i59 x60 s54 fr73 h74 hx79 ⟨v56,c57,f76,f77,f78,hv58,hS75⟩ f80 f81 oc62 hF65 hr66 Q67 hN68 hB72 hK69 hR70 hE71
  unfold uo at hF65
  simp only [q1x,qf,qd,f78,f80,jg,B0,reduceIte,reduceEqDiff]
  refine qg (v := .ref (Server.cells x60) 0) (wi hx79 rfl) ?_
  simp only [ql,B0,reduceIte,reduceEqDiff]
  refine qg (v := .agg [.int .i64 x60.Term,.int .i64 x60.Voted,.bool x60.Stands,.bool x60.Leads,lst cI x60.Got,lst cI x60.Log]) rfl ?_
  simp only [jj,B0,reduceIte,reduceEqDiff]
  refine z8 hS75 (fun b82 h83 hS84=>?_)
  simp only [zg,B0,reduceIte,reduceEqDiff]
  refine qw (us:=[.int .i64 x60.Term,.int .i64 x60.Voted,.bool x60.Stands,.bool x60.Leads,lst cI x60.Got,lst cI x60.Log]) rfl (cs':=[.int .i64 x60.Term,
    .int .i64 x60.Voted,.bool x60.Stands,.bool x60.Leads,lst cI x60.Got,lst cI x60.Log]) hS84 hW rfl rfl (nle rfl) rfl (fun h86 hS87=>?_)
  simp only [qa,q0z,qf,qd,ju,evp,B0,reduceIte,reduceEqDiff]
  refine jk (n:=1) (f:=cI) ([] : List Int) hS87 rfl rfl (fun v88 c89 h90 hv91 hS92=>?_)
  simp only [qp,qb,Nat.reduceAdd,Nat.zero_add,Nat.add_zero,qs,ql,B0,reduceIte,reduceEqDiff]
  refine qg (v:=lst cI x60.Got) ((zz (Sep.bk _ _ _ (Sep.m1 hS92))).trans rfl) ?_
  simp only [wa,B0,reduceIte,reduceEqDiff]
  obtain ⟨l94,hx95,hF96⟩:=qh hF65
  refine yj (f:=cI) hv91 hS92 hW (fun _=>rfl) (fun _=>rfl) (w5 (fun _=>rfl)) hx95 (fun v97 c98 h99 hv100 hS101=>?_)
  simp only [qp,qb,Nat.reduceAdd,Nat.zero_add,Nat.add_zero,qs,zg,B0,reduceIte,reduceEqDiff]
  refine qw (us:=[v97]) (jd (SlF.one hv100)) (cs':=[.int .i64 x60.Term,.int .i64 x60.Voted,.bool x60.Stands,.bool x60.Leads,v97,
    lst cI x60.Log]) (Sep.m1 hS101) hW rfl (qm (SlF.one hv100) zm) (nle rfl) rfl (fun h103 hS104=>?_)
  simp only [qa,qzn,qf,qd,ju,evp,B0,reduceIte,reduceEqDiff]
  refine jk (n:=1) (f:=cI) ([] : List Int) hS104 rfl rfl (fun v105 c106 h107 hv108 hS109=>?_)
  simp only [qp,qb,Nat.reduceAdd,Nat.zero_add,Nat.add_zero,qs,ql,B0,reduceIte,reduceEqDiff]
  refine qg (v:=lst cI x60.Log) ((zz (Sep.bk _ _ _ (Sep.m1 hS109))).trans rfl) ?_
  simp only [wa,B0,reduceIte,reduceEqDiff]
  obtain ⟨l111,hx112,hF113⟩:=qh hF96
  refine yj (f:=cI) hv108 hS109 hW (fun _=>rfl) (fun _=>rfl) (w5 (fun _=>rfl)) hx112 (fun v114 c115 h116 hv117 hS118=>?_)
  simp only [qp,qb,Nat.reduceAdd,Nat.zero_add,Nat.add_zero,qs,zg,B0,reduceIte,reduceEqDiff]
  refine qw (us:=[v114]) (jd (SlF.one hv117)) (cs':=[.int .i64 x60.Term,.int .i64 x60.Voted,.bool x60.Stands,.bool x60.Leads,v97,
    v114]) (Sep.m1 hS118) hW rfl (qm (SlF.one hv117) zm) (nle rfl) rfl (fun h120 hS121=>?_)
  simp only [qa,qxj,qd,f77,qp,qb,Nat.reduceAdd,Nat.zero_add,Nat.add_zero,qs,ql,B0,reduceIte,reduceEqDiff]
  refine qg (v:=v56) ((zz (Sep.bk _ _ _ (Sep.m4 hS121))).trans rfl) ?_
  simp only [ql,B0,reduceIte,reduceEqDiff]
  refine qg (v := .agg [.int .i64 x60.Term,.int .i64 x60.Voted,.bool x60.Stands,.bool x60.Leads,v97,v114]) ((zu (Sep.bk _ _ _ hS121)).trans rfl) ?_
  simp only [ju,evp,B0,reduceIte,reduceEqDiff]
  refine qdu (R:=Server.R) (n:=6) (cs:=[.int .i64 x60.Term,.int .i64 x60.Voted,.bool x60.Stands,.bool x60.Leads,v97,
    v114]) (os:=c98++(c115)) (Sep.bi2 (c1:=c98) (c2:=c115) (Sep.m2 (Sep.m1 hS121))) (uz (us:=[.int .i64 x60.Term,.int .i64 x60.Voted,.bool x60.Stands,
    .bool x60.Leads,v97,v114]) (vs:=[.int .i64 x60.Term,.int .i64 x60.Voted,.bool x60.Stands,.bool x60.Leads,v97,
    v114]) rfl rfl (nle rfl) (qm rfl (qm rfl (qm rfl (qm rfl (qm (SlF.one hv100) (qm (SlF.one hv117) zm)))))) rfl qen) (Server.RI (x :=
    (Server.mk x60.Term x60.Voted x60.Stands x60.Leads l94 l111)) hv100 hv117) rfl (fun v122 c123 h124 hv125 hS126=>?_)
  simp only [wa,B0,reduceIte,reduceEqDiff]
  obtain ⟨l128,hx129,hF130⟩:=qh hF113
  refine qf5 (R:=Server.R) (c:=c57) hv58 hv125 (Sep.m4 hS126) hW Server.RO.len Server.RO.one hx129 (fun v131 c132 h133 hv134 hS135=>?_)
  simp only [f77,qp,qb,Nat.reduceAdd,Nat.zero_add,Nat.add_zero,qs,zg,B0,reduceIte,reduceEqDiff]
  refine qw (us:=[v131]) (jd (SlN.one hv134)) (cs':=[v131,v32,v41]) (Sep.m3 hS135) hW rfl (qm (SlN.one hv134) zm) (nle rfl) rfl (fun h137 hS138=>?_)
  simp only [qa,qj,B0,reduceIte,reduceEqDiff]
  have e139:=qi hF130
  exact hN68 _ _ _ e139.symm ⟨v131,c132,f76,f77,f78,hv134,(Sep.m4 (Sep.m3 (Sep.m3 (Sep.m4 (Sep.m4 (Sep.dc (Sep.m2 hS138)))))))⟩ (f80) (f81)
 rintro s141 fr146 h147 rfl ⟨v143,c144,f149,f150,f151,hv145,hS148⟩
 dsimp only [jnO] at hk64
 unfold qd3 at hk64
 simp only [qf,qd,f150,ql,B0,reduceIte,reduceEqDiff]
 refine qg (v := .agg [v143,v32,v41]) ((zu (Sep.bk _ _ _ (Sep.m1 hS148))).trans rfl) ?_
 simp only [f149,zg,B0,reduceIte,reduceEqDiff]
 refine qw (us:=[v143,v32,v41]) rfl (cs':=[v143,v32,
   v41]) hS148 hW rfl (qm (SlN.one hv145) (qm (SlF.one hv35) (qm (SlF.one hv44) zm))) (nle rfl) rfl (fun h152 hS153=>?_)
 simp only [qa,q9,B0,reduceIte,reduceEqDiff]
 have he:=qi hk64
 subst he
 refine qbe (bb:=b5) (oo:=0) (v := .agg [v143,v32,v41]) (by simp only [f149,B0,reduceIte,reduceEqDiff]) ((zu (Sep.bk _ _ _ hS153)).trans rfl) ?_
 exact ⟨v143,c144,v32,c33,v41,c42,by first | trivial | rfl,hv145,hv35,hv44,(Sep.m2 (Sep.m2 (Sep.m2 (Sep.dc ((Sep.dc (hS153)))))))⟩
theorem qbq {W:Nat→Bool}{h:Heap}{lo:Nat→Prop}{S0:List Obj} (hW:∀ b,
  lo b→W b=true) (pb0:Nat) (e_0:Election) (pv0_0:XV) (pc0_0:List Obj) (ph0_0:SlN Server.R 6 46 pv0_0 e_0.Servers pc0_0) (pv0_1:XV) (pc0_1:List Obj)
  (ph0_1:SlF Letter.cells 7 93 pv0_1 e_0.Post pc0_1) (pv0_2:XV) (pc0_2:List Obj) (ph0_2:SlF Vote.cells 2 39 pv0_2 e_0.Led pc0_2) (k_1:Int) (r:Election)
  (hF:wx e_0 k_1=some r) (hS:Sep h lo ([Blk1 pb0 [pv0_0,pv0_1,pv0_2] 31]++(pc0_0++(pc0_1++(pc0_2++(S0)))))) : Ret E W 113 [.ptr pb0 0,
  .int .i64 k_1] h (fun v h'=>∃ ic0_0 ic0_1 iv0_2 ic0_2,
  v = .tup []∧SlN Server.R 6 46 pv0_0 r.Servers ic0_0∧SlF Letter.cells 7 93 pv0_1 r.Post ic0_1∧SlF Vote.cells 2 39 iv0_2 r.Led ic0_2∧Sep h' lo ([Blk1 pb0 [pv0_0,pv0_1,
  iv0_2] 31]++(ic0_0++(ic0_1++(ic0_2++(S0)))))):=by
 refine Ret.of (fn:=j0) rfl (Run.of ?_)
 unfold wx at hF
 have zf0:zb [.ptr pb0 0,.int .i64 k_1] 0 = .ptr pb0 0:=rfl
 have zf1:zb [.ptr pb0 0,.int .i64 k_1] 1 = .int .i64 k_1:=rfl
 generalize zb [.ptr pb0 0,.int .i64 k_1]=fr0 at zf0 zf1 ⊢
 simp only [j0,qf,qd,zf0,qe,yx,qb,zo,qp,Nat.reduceAdd,Nat.zero_add,Nat.add_zero,qs,ql,B0,reduceIte,reduceEqDiff]
 refine qg (v:=pv0_0) ((zz (Sep.bk _ _ _ hS)).trans rfl) ?_
 obtain ⟨x1,hx2,hF3⟩:=qh hF
 simp only [zf1,qe,jg,B0,reduceIte,reduceEqDiff]
 obtain ⟨b4,hb5⟩:=SlN.isrow ph0_0 (wv hx2)
 refine qg (SlN.ia ph0_0 hb5 hx2) ?_
 obtain ⟨c6,cs7,os8,hv9,hR10,hS11⟩:=SlG.opn (SlN.toG ph0_0 hb5 Server.RO.len) hx2 jm Server.RO.len (Sep.m1 hS)
 obtain ⟨v13,c14,v17,c18,hv15,hv19,rfl,rfl⟩:=hR10
 have hS12:=Sep.no2 hS11
 simp only [qe,qa,qq2,qf,jr,zw,qk,j7,zo,zx,Nat.reduceAdd,Nat.zero_add,Nat.add_zero,qs,zv,B0,reduceIte,
   reduceEqDiff]
 refine qu (v := .bool x1.Stands) ((SlG.ld (o:=2) hv9 rfl hx2 hS12 (nle rfl)).trans rfl) ?_
 simp only [zw,qk,B0,reduceIte,reduceEqDiff]
 refine qbv 13 (fun fr' h'=>Sep h' lo ([Blk1 pb0 [pv0_0,pv0_1,
   pv0_2] 31]++(c6++(pc0_1++(pc0_2++(c14++(c18++(S0)))))))∧fr' 28 = .bool (x1.Stands&&(decide ((List.length e_0.Servers:Int)<(IntKind.wrap .i64
   ((2:Int)*(List.length x1.Got:Int))))))∧fr' 0 = .ptr pb0 0∧fr' 1 = .int .i64 k_1∧fr' 4 = .ptr b4 (k_1.toNat*6)) rfl (fun Q21 hN22=>?_) ?_
 ·simp only [List.take_succ_cons,List.take_zero]
  simp only [qx (g:=15),B0,reduceIte,reduceEqDiff]
  refine kj (t:=x1.Stands) (fun hg23=>?_) (fun hg23=>?_)
  ·simp only [hg23,qx (g:=15),kw,zw,qk,j7,zo,zx,Nat.reduceAdd,Nat.zero_add,Nat.add_zero,qs,zv,B0,reduceIte,
    reduceEqDiff]
   refine qu (v:=v13) ((SlG.ld (o:=4) hv9 rfl hx2 hS12 (nle rfl)).trans rfl) ?_
   simp only [hg23,qx (g:=15),kw,qgj,qk,SlF.plen hv15,xw,qlf,zf0,zw,j7,zo,zx,Nat.reduceAdd,Nat.zero_add,
     Nat.add_zero,qs,zv,B0,reduceIte,reduceEqDiff]
   refine qu (v:=pv0_0) ((zz (Sep.bk _ _ _ (Sep.m3 hS12))).trans rfl) ?_
   simp only [hg23,qx (g:=15),kw,qgj,qk,SlG.plen hv9,xw,xj,j8,zj,zd,qj,B0,reduceIte,reduceEqDiff]
   exact hN22 _ _ ⟨(Sep.m5 (Sep.m4 (Sep.m5 (Sep.m5 (Sep.m2 (Sep.m2 hS12)))))),by rw [qba hg23]; simp only [B0,reduceIte,reduceEqDiff],zf0,zf1,rfl⟩
  ·simp only [hg23,qx (g:=15),qdt,j8,qk,zi,zd,qj,B0,reduceIte,reduceEqDiff]
   exact hN22 _ _ ⟨(Sep.m5 (Sep.m4 (Sep.m5 (Sep.m5 (Sep.m2 (Sep.m2 hS12)))))),by rw [qbf hg23]; simp only [B0,reduceIte,reduceEqDiff],zf0,zf1,rfl⟩
 rintro fr24 h29 ⟨hS30,f25,f26,f27,f28⟩
 simp only [List.drop_succ_cons,List.drop_zero]
 simp only [zd,qsd,f25,za,B0,reduceIte,reduceEqDiff]
 refine q8 (t:=(x1.Stands&&(decide ((List.length e_0.Servers:Int)<(IntKind.wrap .i64 ((2:Int)*(List.length x1.Got:Int))))))) (fun hc31=>?_)
   (fun hc31=>?_)
 ·rw [iteT hc31] at hF3
  simp only [qps,qf,qd,f28,qe,yx,qb,zo,qp,Nat.reduceAdd,Nat.zero_add,Nat.add_zero,qs,zg,B0,reduceIte,reduceEqDiff]
  refine yi (n:=6) (us:=[.bool false]) (cs:=[.int .i64 x1.Term,.int .i64 x1.Voted,.bool x1.Stands,.bool x1.Leads,v13,v17]) (o:=2) (cs':=[.int .i64 x1.Term,
    .int .i64 x1.Voted,.bool false,.bool x1.Leads,v13,v17]) rfl hv9 rfl hx2 (Sep.m1 hS30) hW rfl rfl (nle rfl) rfl (fun c34 h32 hv35 hS33=>?_)
  simp only [qa,qpd,qf,qd,f28,qe,yx,qb,zo,qp,Nat.reduceAdd,Nat.zero_add,Nat.add_zero,qs,zg,B0,reduceIte,
    reduceEqDiff]
  refine yi (n:=6) (us:=[.bool true]) (cs:=[.int .i64 x1.Term,.int .i64 x1.Voted,.bool false,.bool x1.Leads,v13,v17]) (o:=3) (cs':=[.int .i64 x1.Term,
    .int .i64 x1.Voted,.bool false,.bool true,v13,v17]) rfl hv35 rfl hx2 hS33 hW rfl rfl (nle rfl) rfl (fun c38 h36 hv39 hS37=>?_)
  simp only [qa,qsi,jr,f26,qfd,qk,zw,j7,zo,zx,Nat.reduceAdd,Nat.zero_add,Nat.add_zero,qs,zv,B0,reduceIte,
    reduceEqDiff]
  refine qu (v:=pv0_2) ((zz (Sep.bk _ _ _ (Sep.m1 hS37))).trans rfl) ?_
  simp only [f28,zw,qk,j7,zo,zx,Nat.reduceAdd,Nat.zero_add,Nat.add_zero,qs,zv,B0,reduceIte,reduceEqDiff]
  refine qu (v := .int .i64 x1.Term) ((SlG.ld (o:=0) hv39 rfl hx2 hS37 (nle rfl)).trans rfl) ?_
  simp only [f27,zw,qk,qa1,evp,B0,reduceIte,reduceEqDiff]
  refine qu (v := .agg [.int .i64 x1.Term,.int .i64 k_1]) rfl ?_
  simp only [wt,evp,B0,reduceIte,reduceEqDiff]
  refine yy (n:=2) (f:=Vote.cells) [(Vote.mk x1.Term k_1)] hS37 rfl rfl (fun v41 c42 h43 hv44 hS45 hq40=>?_)
  simp only [qcr,B0,reduceIte,reduceEqDiff]
  obtain ⟨l47,hx48,hF49⟩:=qh hF3
  refine yz (f:=Vote.cells) ph0_2 (Sep.m4 hS45) hW (fun _=>rfl) (fun _=>rfl) (SlF.first hv44 hS45 (fun _=>rfl)) hx48 (fun v50 c51 h52 hv53 hS54=>?_)
  simp only [j7,qk,zo,zx,Nat.reduceAdd,Nat.zero_add,Nat.add_zero,qs,qcv,B0,reduceIte,reduceEqDiff]
  refine xe (us:=[v50]) (jd (SlF.one hv53)) (cs':=[pv0_0,pv0_1,v50]) (Sep.m3 hS54) hW rfl (qm (SlF.one hv53) zm) (nle rfl) rfl (fun h56 hS57=>?_)
  simp only [zd,qj,B0,reduceIte,reduceEqDiff]
  obtain ⟨c58,hv59,hS60⟩:=SlG.cls (e':=(Server.mk x1.Term x1.Voted false true x1.Got x1.Log)) (c:=c38) (os:=c14++(c18)) hv39 rfl hx2 jm (Server.RI (x :=
    (Server.mk x1.Term x1.Voted false true x1.Got x1.Log)) hv15 hv19) (Sep.ni2 (c1:=c14) (c2:=c18) (Sep.m5 (Sep.m6 (Sep.m6 hS57))))
  have hx61:=xd (x':=(Server.mk x1.Term x1.Voted false true x1.Got x1.Log)) hx2
  have hv62:=SlG.toN hv59
  have he:=qi hF49
  subst he
  simp only [qfl,B0,reduceIte,reduceEqDiff]
  exact ⟨c58,pc0_1,v50,c51,by first | trivial | rfl,hv62,ph0_1,hv53,(Sep.m3 (Sep.m2 (Sep.m3 (Sep.m2 (Sep.dc (Sep.m3 hS60))))))⟩
 rw [iteF hc31] at hF3
 simp only [zc,qj,B0,reduceIte,reduceEqDiff]
 obtain ⟨c63,hv64,hS65⟩:=SlG.cls0 (c:=c6) (os:=c14++(c18)) hv9 rfl hx2 jm (Server.RI (x:=x1) hv15 hv19) (Sep.ni2 (c1:=c14) (c2:=c18) (Sep.m3 (Sep.m5
   (Sep.m5 hS30))))
 have hv66:=SlG.toN hv64
 have he:=qi hF3
 subst he
 simp only [qfl,B0,reduceIte,reduceEqDiff]
 exact ⟨c63,pc0_1,pv0_2,pc0_2,by first | trivial | rfl,hv66,ph0_1,ph0_2,(Sep.m3 (Sep.m2 (Sep.m3 (Sep.m3 hS65))))⟩
theorem qgq {W:Nat→Bool}{h:Heap}{lo:Nat→Prop}{S0:List Obj} (hW:∀ b,
  lo b→W b=true) (pb0:Nat) (v_0:Election) (pv0_0:XV) (pc0_0:List Obj) (ph0_0:SlN Server.R 6 46 pv0_0 v_0.Servers pc0_0) (pv0_1:XV) (pc0_1:List Obj)
  (ph0_1:SlF Letter.cells 7 93 pv0_1 v_0.Post pc0_1) (pv0_2:XV) (pc0_2:List Obj) (ph0_2:SlF Vote.cells 2 39 pv0_2 v_0.Led pc0_2) (v_1:Int) (r:Bool × Election)
  (hF:xn v_0 v_1=some r) (hS:Sep h lo ([Blk1 pb0 [pv0_0,pv0_1,pv0_2] 31]++(pc0_0++(pc0_1++(pc0_2++(S0)))))) : Ret E W 94 [.ptr pb0 0,
  .int .i64 v_1] h (fun v h'=>∃ ic0_0 iv0_1 ic0_1 iv0_2 ic0_2,
  v = .bool r.1∧SlN Server.R 6 46 pv0_0 r.2.Servers ic0_0∧SlF Letter.cells 7 93 iv0_1 r.2.Post ic0_1∧SlF Vote.cells 2 39 iv0_2 r.2.Led ic0_2∧Sep h' lo ([Blk1 pb0 [pv0_0,
  iv0_1,iv0_2] 31]++(ic0_0++(ic0_1++(ic0_2++(S0)))))):=by
 refine Ret.of (fn:=x94) rfl (Run.of ?_)
 unfold xn at hF
 have zf0:zb [.ptr pb0 0,.int .i64 v_1] 0 = .ptr pb0 0:=rfl
 have zf1:zb [.ptr pb0 0,.int .i64 v_1] 1 = .int .i64 v_1:=rfl
 generalize zb [.ptr pb0 0,.int .i64 v_1]=fr0 at zf0 zf1 ⊢
 simp only [x94,qf,qd,qe,qa,que,zf0,yx,qb,zo,qp,Nat.reduceAdd,Nat.zero_add,Nat.add_zero,qs,ql,B0,
   reduceIte,reduceEqDiff]
 refine qg (v:=pv0_0) ((zz (Sep.bk _ _ _ hS)).trans rfl) ?_
 obtain ⟨x1,hx2,hF3⟩:=qh hF
 simp only [zf1,qe,jg,B0,reduceIte,reduceEqDiff]
 obtain ⟨b4,hb5⟩:=SlN.isrow ph0_0 (wv hx2)
 refine qg (SlN.ia ph0_0 hb5 hx2) ?_
 obtain ⟨c6,cs7,os8,hv9,hR10,hS11⟩:=SlG.opn (SlN.toG ph0_0 hb5 Server.RO.len) hx2 jm Server.RO.len (Sep.m1 hS)
 obtain ⟨v13,c14,v17,c18,hv15,hv19,rfl,rfl⟩:=hR10
 have hS12:=Sep.no2 hS11
 simp only [qe,qa,qrh,qf,jr,zw,qk,j7,zo,zx,Nat.reduceAdd,Nat.zero_add,Nat.add_zero,qs,zv,B0,reduceIte,
   reduceEqDiff]
 refine qu (v := .bool x1.Leads) ((SlG.ld (o:=3) hv9 rfl hx2 hS12 (nle rfl)).trans rfl) ?_
 simp only [zw,qk,B0,reduceIte,reduceEqDiff]
 refine qbv 6 (fun fr' h'=>Sep h' lo ([Blk1 pb0 [pv0_0,pv0_1,
   pv0_2] 31]++(c6++(pc0_1++(pc0_2++(c14++(c18++(S0)))))))∧fr' 23 = .bool (x1.Leads||(decide
   (x1.Term=100)))∧fr' 0 = .ptr pb0 0∧fr' 1 = .int .i64 v_1∧fr' 5 = .ptr b4 (v_1.toNat*6)) rfl (fun Q21 hN22=>?_) ?_
 ·simp only [List.take_succ_cons,List.take_zero]
  simp only [qx (g:=17),B0,reduceIte,reduceEqDiff]
  refine kj (t:=x1.Leads) (fun hg23=>?_) (fun hg23=>?_)
  ·simp only [hg23,qx (g:=17),w7,j8,qk,zj,zd,qj,B0,reduceIte,reduceEqDiff]
   exact hN22 _ _ ⟨(Sep.m5 (Sep.m4 (Sep.m5 (Sep.m5 (Sep.m2 (Sep.m2 hS12)))))),by rw [orT hg23]; simp only [B0,reduceIte,reduceEqDiff],zf0,zf1,rfl⟩
  ·simp only [hg23,qx (g:=17),zy,zw,qk,j7,zo,zx,Nat.reduceAdd,Nat.zero_add,Nat.add_zero,qs,zv,B0,reduceIte,
    reduceEqDiff]
   refine qu (v := .int .i64 x1.Term) ((SlG.ld (o:=0) hv9 rfl hx2 hS12 (nle rfl)).trans rfl) ?_
   simp only [hg23,qx (g:=17),zy,xw,qk,yo,j8,zi,zd,qj,B0,reduceIte,reduceEqDiff]
   exact hN22 _ _ ⟨(Sep.m5 (Sep.m4 (Sep.m5 (Sep.m5 (Sep.m2 (Sep.m2 hS12)))))),by rw [orF hg23]; simp only [B0,reduceIte,reduceEqDiff],zf0,zf1,rfl⟩
 rintro fr24 h29 ⟨hS30,f25,f26,f27,f28⟩
 simp only [List.drop_succ_cons,List.drop_zero]
 simp only [f25,zw,qk,B0,reduceIte,reduceEqDiff]
 refine qbv 14 (fun fr' h'=>Sep h' lo ([Blk1 pb0 [pv0_0,pv0_1,
   pv0_2] 31]++(c6++(pc0_1++(pc0_2++(c14++(c18++(S0)))))))∧fr' 38 = .bool ((x1.Leads||(decide (x1.Term=100)))||(decide ((20:Int)<(IntKind.wrap .i64
   ((IntKind.wrap .i64 ((List.length v_0.Post:Int)+(List.length v_0.Servers:Int))) - 1)))))∧fr' 0 = .ptr pb0 0∧fr' 1 = .int .i64 v_1∧fr' 5 = .ptr b4
   (v_1.toNat*6)) rfl (fun Q31 hN32=>?_) ?_
 ·simp only [List.take_succ_cons,List.take_zero]
  simp only [qx (g:=24),B0,reduceIte,reduceEqDiff]
  refine kj (t:=(x1.Leads||(decide (x1.Term=100)))) (fun hg33=>?_) (fun hg33=>?_)
  ·simp only [hg33,qx (g:=24),w7,j8,qk,zj,zd,qj,B0,reduceIte,reduceEqDiff]
   exact hN32 _ _ ⟨(Sep.m5 (Sep.m5 (Sep.m5 (Sep.m5 (Sep.m5 (Sep.m5 hS30)))))),by rw [orT hg33]; simp only [B0,reduceIte,reduceEqDiff],f26,f27,f28⟩
  ·simp only [hg33,qx (g:=24),zy,f26,zw,qk,j7,zo,zx,Nat.reduceAdd,Nat.zero_add,Nat.add_zero,qs,zv,B0,
    reduceIte,reduceEqDiff]
   refine qu (v:=pv0_1) ((zz (Sep.bk _ _ _ hS30)).trans rfl) ?_
   simp only [hg33,qx (g:=24),zy,qgj,qk,SlF.plen ph0_1,f26,zw,j7,zo,zx,Nat.reduceAdd,Nat.zero_add,Nat.add_zero,
     qs,zv,B0,reduceIte,reduceEqDiff]
   refine qu (v:=pv0_0) ((zz (Sep.bk _ _ _ hS30)).trans rfl) ?_
   simp only [hg33,qx (g:=24),zy,qgj,qk,SlG.plen hv9,xw,qbj,qbr,xj,j8,zi,zd,qj,B0,reduceIte,
     reduceEqDiff]
   exact hN32 _ _ ⟨(Sep.m5 (Sep.m5 (Sep.m5 (Sep.m5 (Sep.m5 (Sep.m5 hS30)))))),by rw [orF hg33]; simp only [B0,reduceIte,reduceEqDiff],f26,f27,f28⟩
 rintro fr34 h39 ⟨hS40,f35,f36,f37,f38⟩
 simp only [List.drop_succ_cons,List.drop_zero]
 simp only [zd,f35,za,B0,reduceIte,reduceEqDiff]
 refine q8 (t:=((x1.Leads||(decide (x1.Term=100)))||(decide ((20:Int)<(IntKind.wrap .i64 ((IntKind.wrap .i64 ((List.length v_0.Post:Int) +
   (List.length v_0.Servers:Int))) - 1)))))) (fun hc41=>?_) (fun hc41=>?_)
 ·rw [iteT hc41] at hF3
  simp only [qf,qd,qe,qa,q9,B0,reduceIte,reduceEqDiff]
  obtain ⟨c42,hv43,hS44⟩:=SlG.cls0 (c:=c6) (os:=c14++(c18)) hv9 rfl hx2 jm (Server.RI (x:=x1) hv15 hv19) (Sep.ni2 (c1:=c14) (c2:=c18) (Sep.m3 (Sep.m5
    (Sep.m5 hS40))))
  have hv45:=SlG.toN hv43
  have he:=qi hF3
  subst he
  simp only [zl,B0,reduceIte,reduceEqDiff]
  exact ⟨c42,pv0_1,pc0_1,pv0_2,pc0_2,by first | trivial | rfl,hv45,ph0_1,ph0_2,(Sep.m3 (Sep.m2 (Sep.m3 (Sep.m3 hS44))))⟩
 rw [iteF hc41] at hF3
 simp only [zc,quv,qf,qd,f38,qe,yx,qb,zo,qp,Nat.reduceAdd,Nat.zero_add,Nat.add_zero,qs,ql,B0,reduceIte,
   reduceEqDiff]
 refine qg (v := .int .i64 x1.Term) ((SlG.ld (o:=0) hv9 rfl hx2 (Sep.m1 hS40) (nle rfl)).trans rfl) ?_
 simp only [qv,qb,qbj,yx,zo,qp,Nat.reduceAdd,Nat.zero_add,Nat.add_zero,qs,zg,B0,reduceIte,reduceEqDiff]
 refine yi (n:=6) (us:=[.int .i64 (IntKind.wrap .i64 (x1.Term+1))]) (cs:=[.int .i64 x1.Term,.int .i64 x1.Voted,.bool x1.Stands,.bool x1.Leads,v13,
   v17]) (o:=0) (cs':=[.int .i64 (IntKind.wrap .i64 (x1.Term+1)),.int .i64 x1.Voted,.bool x1.Stands,.bool x1.Leads,v13,
   v17]) rfl hv9 rfl hx2 (Sep.m1 hS40) hW rfl rfl (nle rfl) rfl (fun c48 h46 hv49 hS47=>?_)
 simp only [qa,qs6,qf,qd,f38,qe,yx,qb,zo,qp,Nat.reduceAdd,Nat.zero_add,Nat.add_zero,qs,zg,B0,reduceIte,
   reduceEqDiff]
 refine yi (n:=6) (us:=[.bool true]) (cs:=[.int .i64 (IntKind.wrap .i64 (x1.Term+1)),.int .i64 x1.Voted,.bool x1.Stands,.bool x1.Leads,v13,
   v17]) (o:=2) (cs':=[.int .i64 (IntKind.wrap .i64 (x1.Term+1)),.int .i64 x1.Voted,.bool true,.bool x1.Leads,v13,
   v17]) rfl hv49 rfl hx2 hS47 hW rfl rfl (nle rfl) rfl (fun c52 h50 hv53 hS51=>?_)
 simp only [qa,quz,qf,qd,f38,qe,f37,yx,qb,zo,qp,Nat.reduceAdd,Nat.zero_add,Nat.add_zero,qs,zg,B0,
   reduceIte,reduceEqDiff]
 refine yi (n:=6) (us:=[.int .i64 v_1]) (cs:=[.int .i64 (IntKind.wrap .i64 (x1.Term+1)),.int .i64 x1.Voted,.bool true,.bool x1.Leads,v13,
   v17]) (o:=1) (cs':=[.int .i64 (IntKind.wrap .i64 (x1.Term+1)),.int .i64 v_1,.bool true,.bool x1.Leads,v13,
   v17]) rfl hv53 rfl hx2 hS51 hW rfl rfl (nle rfl) rfl (fun c56 h54 hv57 hS55=>?_)
 simp only [qa,qwt,qf,qd,f38,qe,f37,ju,evp,B0,reduceIte,reduceEqDiff]
 refine jk (n:=1) (f:=cI) [v_1] hS55 rfl rfl (fun v58 c59 h60 hv61 hS62=>?_)
 simp only [yx,qb,zo,qp,Nat.reduceAdd,Nat.zero_add,Nat.add_zero,qs,zg,B0,reduceIte,reduceEqDiff]
 refine yi (n:=6) (us:=[v58]) (cs:=[.int .i64 (IntKind.wrap .i64 (x1.Term+1)),.int .i64 v_1,.bool true,.bool x1.Leads,v13,
   v17]) (o:=4) (cs':=[.int .i64 (IntKind.wrap .i64 (x1.Term+1)),.int .i64 v_1,.bool true,.bool x1.Leads,v58,
   v17]) (jd (SlF.one hv61)) hv57 rfl hx2 (Sep.m1 hS62) hW rfl (qm (SlF.one hv61) zm) (nle rfl) rfl (fun c66 h64 hv67 hS65=>?_)
 simp only [qa,q0p,qf,qd,f36,qe,yx,qb,zo,qp,Nat.reduceAdd,Nat.zero_add,Nat.add_zero,qs,ql,B0,reduceIte,
   reduceEqDiff]
 refine qg (v:=pv0_0) ((zz (Sep.bk _ _ _ (Sep.m2 hS65))).trans rfl) ?_
 simp only [zn,qb,SlG.plen hv67,qe,qa,B0,reduceIte,reduceEqDiff]
 obtain ⟨c68,hv69,hS70⟩:=SlG.cls (e':=(Server.mk (IntKind.wrap .i64 (x1.Term+1)) v_1 true x1.Leads [v_1] x1.Log)) (c:=c66) (os:=c59++(c18)) hv67 rfl hx2 jm
   (Server.RI (x:=(Server.mk (IntKind.wrap .i64 (x1.Term+1)) v_1 true x1.Leads [v_1] x1.Log)) hv61 hv19) (Sep.ni2 (c1:=c59) (c2:=c18) (Sep.m2 (Sep.m2 (Sep.m6 hS65))))
 have hx71:=xd (x':=(Server.mk (IntKind.wrap .i64 (x1.Term+1)) v_1 true x1.Leads [v_1] x1.Log)) hx2
 have hv72:=SlG.toN hv69
 obtain ⟨oc91,hX93,hk94⟩:=kd hF3
 simp only [q0i]
 refine qcd (σ:=Election × (List Server)) (fun i89 s157=>wb v_0 v_1 i89 s157.1 s157.2) (fun s fr' h'=>∃ v83 c84 c87,
   fr' 0 = .ptr pb0 0∧fr' 1 = .int .i64 v_1∧fr' 5 = .ptr b4 (v_1.toNat*6)∧SlF Letter.cells 7 93 v83 s.1.Post c84∧SlN Server.R 6 46 pv0_0 s.2 c87∧Sep h' lo
   ([Blk1 pb0 [pv0_0,v83,pv0_2] 31]++(c87++(c84++(pc0_2++(S0)))))) hX93 ⟨pv0_1,pc0_1,c68,f36,f37,f38,ph0_1,hv72,
   (Sep.m3 (Sep.m2 (Sep.m3 (Sep.m3 (Sep.dc (Sep.m4 hS70))))))⟩ (by simp only [B0,reduceIte,reduceEqDiff]) (by simp only [B0,reduceIte,
   reduceEqDiff]) (fun _ _ _ h=>h) rfl rfl (fun _ _ _ _ h=>h) (fun _ _ _ _ h=>h) (fun _ _ _ _ h=>h) (by decide) ?_ ?_
 ·rintro i89 ⟨s81,s86⟩ fr103 h104 hx109 ⟨v83,c84,c87,f106,f107,f108,hv85,hv88,hS105⟩ f110 f111 oc92 hF95 hr96 Q97 hN98 hB102 hK99 hR100 hE101
  dsimp only at *
  unfold wb at hF95
  simp only [q02,qf,qd,f110,qe,qa,q1y,f107,qv,qb,qc6,q0o,za,B0,reduceIte,reduceEqDiff]
  refine q8 (t:=(decide ((i89:Int)≠v_1))) (fun hc112=>?_) (fun hc112=>?_)
  ·rw [iteT hc112] at hF95
   simp only [qwv,jr,f106,qfd,qk,qlr,zo,qc0,Nat.reduceAdd,Nat.zero_add,Nat.add_zero,qs,qb8,B0,reduceIte,reduceEqDiff]
   refine qdq (Sep.ltk hS105) ?_
   refine qu (v:=v83) ((zz (Sep.bk _ _ _ hS105)).trans rfl) ?_
   obtain ⟨j0,hx114,hF115⟩:=qh hF95
   obtain ⟨c116,cs117,os118,hv119,hR120,hS121⟩:=SlG.opn (SlN.toG hv88 hb5 Server.RO.len) hx114 jm Server.RO.len (Sep.m1 hS105)
   obtain ⟨v123,c124,v127,c128,hv125,hv129,rfl,rfl⟩:=hR120
   have hS122:=Sep.no2 hS121
   simp only [qfd,qk,f107,f108,qlr,zo,qc0,Nat.reduceAdd,Nat.zero_add,Nat.add_zero,qs,qb8,B0,reduceIte,reduceEqDiff]
   refine qdq (SlN.ltk hv88 hb5 (Sep.m1 hS105)) ?_
   refine qu (v := .int .i64 j0.Term) ((SlG.ld (o:=0) hv119 rfl hx114 hS122 (nle rfl)).trans rfl) ?_
   simp only [f108,zw,qk,j7,zo,zx,Nat.reduceAdd,Nat.zero_add,Nat.add_zero,qs,zv,B0,reduceIte,reduceEqDiff]
   refine qu (v:=v127) ((SlG.ld (o:=5) hv119 rfl hx114 hS122 (nle rfl)).trans rfl) ?_
   obtain ⟨v131,hx132,hF133⟩:=qh hF115
   simp only [qer,B0,reduceIte,reduceEqDiff]
   refine qll rfl (qo (SlF.snap hv129 (Sep.m2 hS122) rfl (fun _=>rfl) (fun _=>rfl)) zh) (qbz (fun b hb=>decide_eq_true hb) j0.Log v131 hx132) ?_
   simp only [f108,qfd,qk,qlr,zo,qc0,Nat.reduceAdd,Nat.zero_add,Nat.add_zero,qs,qb8,B0,reduceIte,reduceEqDiff]
   refine qdq (SlN.ltk hv88 hb5 (Sep.m1 hS105)) ?_
   refine qu (v:=v127) ((SlG.ld (o:=5) hv119 rfl hx114 hS122 (nle rfl)).trans rfl) ?_
   simp only [qls,qk,SlF.plen hv129,qa1,evp,B0,reduceIte,reduceEqDiff]
   refine qu (v := .agg [.int .i64 (i89:Int),.int .i64 v_1,.int .i64 j0.Term,.bool true,.int .i64 v131,.int .i64 (List.length j0.Log:Int),
     .bool false]) rfl ?_
   simp only [wt,evp,B0,reduceIte,reduceEqDiff]
   refine qdd (n:=7) (f:=Letter.cells) [(Letter.mk (i89:Int) v_1 j0.Term true v131 (List.length j0.Log:Int) false)] hS122 rfl rfl
     (fun v134 c135 h136 hv137 hS138=>?_)
   simp only [qcr,B0,reduceIte,reduceEqDiff]
   obtain ⟨l140,hx141,hF142⟩:=qh hF133
   refine yz (f:=Letter.cells) hv85 (Sep.m5 hS138) hW (fun _=>rfl) (fun _=>rfl) (SlF.first hv137 hS138 (fun _=>rfl)) hx141 (fun v143 c144 h145 hv146 hS147=>?_)
   simp only [j7,qk,zo,zx,Nat.reduceAdd,Nat.zero_add,Nat.add_zero,qs,qcv,B0,reduceIte,reduceEqDiff]
   refine xe (us:=[v143]) (jd (SlF.one hv146)) (cs':=[pv0_0,v143,
     pv0_2]) (Sep.m5 hS147) hW rfl (qm (SlF.one hv146) zm) (nle rfl) rfl (fun h149 hS150=>?_)
   simp only [zd,qj,B0,reduceIte,reduceEqDiff]
   obtain ⟨c151,hv152,hS153⟩:=SlG.cls0 (c:=c116) (os:=c124++(c128)) hv119 rfl hx114 jm (Server.RI (x:=j0) hv125 hv129) (Sep.ni2 (c1:=c124) (c2:=c128)
     (Sep.m5 (Sep.m5 (Sep.m5 hS150))))
   have hv154:=SlG.toN hv152
   have e155:=qi hF142
   exact hN98 _ _ _ e155.symm ⟨v143,c144,c151,f106,f107,f108,hv146,hv154,(Sep.m3 (Sep.m2 (Sep.m3 (Sep.m3 (Sep.dc (Sep.m3 hS153))))))⟩ (f110) (f111)
  rw [iteF hc112] at hF95
  simp only [zc,qj,B0,reduceIte,reduceEqDiff]
  have e156:=qi hF95
  exact hN98 _ _ _ e156.symm ⟨v83,c84,c87,f106,f107,f108,hv85,hv88,(Sep.m3 (Sep.m3 (Sep.m3 (Sep.m3 hS105))))⟩ (f110) (f111)
 rintro ⟨s158,s163⟩ fr166 h167 rfl ⟨v160,c161,c164,f169,f170,f171,hv162,hv165,hS168⟩
 dsimp only [jnO] at hk94
 dsimp only at *
 unfold qax at hk94
 obtain ⟨v172,hx173,hF174⟩:=qh hk94
 simp only [q1j,qf,qd,f169,qe,f170,qz,B0,reduceIte,reduceEqDiff]
 refine kq rfl (qbq hW pb0 (Election.mk s163 s158.Post v_0.Led) pv0_0 c164 hv165 v160 c161 hv162 pv0_2 pc0_2 ph0_2 v_1 v172 hx173 (Sep.m3 (Sep.m3 (Sep.m3
   (Sep.m3 hS168))))) ?_
 rintro _ h183 ⟨c175,c177,v179,c180,rfl,hv176,hv178,hv181,hS184⟩
 simp only [qa,qf,qd,qe,q9,B0,reduceIte,reduceEqDiff]
 have he:=qi hF174
 subst he
 simp only [zl,B0,reduceIte,reduceEqDiff]
 exact ⟨c175,v160,c177,v179,c180,by first | trivial | rfl,hv176,hv178,hv181,(Sep.m3 (Sep.m3 (Sep.m3 (Sep.m3 hS184))))⟩
theorem qf7 {W:Nat→Bool}{h:Heap}{lo:Nat→Prop}{S0:List Obj} (hW:∀ b,
  lo b→W b=true) (pv0:XV) (pc0:List Obj) (s_0:List Letter) (ph0:SlF Letter.cells 7 93 pv0 s_0 pc0) (i_1:Int) (j_2:Int) (r:List Letter)
  (hF:uq s_0 i_1 j_2=some r) (hS:Sep h lo (pc0++S0)) : Ret E W 95 [pv0,.int .i64 i_1,.int .i64 j_2] h (fun v h'=>∃ rv0 rc0,
  v=rv0∧SlF Letter.cells 7 93 rv0 r rc0∧Sep h' lo (rc0++S0)):=q4t (f:=Letter.cells) (n:=7) (ty:=93) (bytes:=56) (z:=[(.int .i64 0),(.int .i64 0),
  (.int .i64 0),(.bool false),(.int .i64 0),(.int .i64 0),(.bool false)]) rfl (fun _=>rfl) (fun _=>rfl) rfl rfl rfl hW ph0 hF hS
theorem qf6 {W:Nat→Bool}{h:Heap} (hW:∀ b,
  (geL h.length) b→W b=true) (last_0:Int) (long_1:Int) (b_2:List Int) (r:Bool) (hF:qag last_0 long_1 b_2=some r) : Ret E W 57 [.int .i64 last_0,
  .int .i64 long_1,lst cI b_2] h (fun v h'=>cut h.length h' E.sz false 9 v=some (.bool r)):=by
 refine Ret.of (fn:=x57) rfl (Run.of ?_)
 unfold qag at hF
 have zf0:zb [.int .i64 last_0,.int .i64 long_1,lst cI b_2] 0 = .int .i64 last_0:=rfl
 have zf1:zb [.int .i64 last_0,.int .i64 long_1,lst cI b_2] 1 = .int .i64 long_1:=rfl
 have zf2:zb [.int .i64 last_0,.int .i64 long_1,lst cI b_2] 2=lst cI b_2:=rfl
 generalize zb [.int .i64 last_0,.int .i64 long_1,lst cI b_2]=fr0 at zf0 zf1 zf2 ⊢
 have hS:Sep h (geL h.length) []:=Sep.nil h
 obtain ⟨v1,hx2,hF3⟩:=qh hF
 simp only [x57,qf,qd,qe,qa,q2b,zf0,zf2,qz,B0,reduceIte,reduceEqDiff]
 refine jp rfl (qo ji zh) (qbz (fun b hb=>decide_eq_true hb) b_2 v1 hx2) ?_
 simp only [qv,qb,xj,qe,B0,reduceIte,reduceEqDiff]
 obtain ⟨v7,hx8,hF9⟩:=qh hF3
 refine ja 11 (fun fr' h'=>Sep h' (geL h.length) ([])∧fr' 22 = .bool v7) (fun Q4 hN5=>?_) ?_
 ·simp only [List.take_succ_cons,List.take_zero]
  simp only [qc (g:=11),B0,reduceIte,reduceEqDiff]
  refine qy (t:=(decide (v1<last_0))) (fun hg6=>?_) (fun hg6=>?_)
  ·rw [iteT hg6] at hx8
   simp only [hg6,qc (g:=11),zq,qc (g:=16),y9,qq,qb,zj,qa,qj,B0,reduceIte,reduceEqDiff]
   have e10:=qi hx8
   exact hN5 _ _ ⟨hS,by rw [←e10]; simp only [B0,reduceIte,reduceEqDiff]⟩
  ·rw [iteF hg6] at hx8
   obtain ⟨v11,hx12,hF13⟩:=qh hx8
   simp only [hg6,qc (g:=11),qn,zf0,qe,zf2,qz,B0,reduceIte,reduceEqDiff]
   refine jp rfl (qo ji zh) (qbz (fun b hb=>decide_eq_true hb) b_2 v11 hx12) ?_
   simp only [hg6,qc (g:=11),qn,qv,qb,yo,qe,B0,reduceIte,reduceEqDiff]
   refine ja 5 (fun fr' h'=>Sep h' (geL h.length) ([])∧fr' 21 = .bool ((decide (last_0=v11))&&(decide ((List.length b_2:Int)≤long_1)))∧fr' 11 = .bool (decide
     (v1<last_0))) (fun Q14 hN15=>?_) ?_
   ·simp only [List.take_succ_cons,List.take_zero]
    simp only [qc (g:=16),B0,reduceIte,reduceEqDiff]
    refine qy (t:=(decide (last_0=v11))) (fun hg16=>?_) (fun hg16=>?_)
    ·simp only [hg16,qc (g:=16),ze,zf1,qe,zf2,zn,qb,zt,qv,qhy,hg6,qc (g:=11),qn,qq,
      zj,qa,qj,B0,reduceIte,reduceEqDiff]
     exact hN15 _ _ ⟨hS,by rw [qba hg16]; simp only [B0,reduceIte,reduceEqDiff],by simp only [hg6,B0,reduceIte,reduceEqDiff]⟩
    ·simp only [hg16,qc (g:=16),jv,hg6,qc (g:=11),qn,qq,qb,zi,qa,qj,B0,reduceIte,reduceEqDiff]
     exact hN15 _ _ ⟨hS,by rw [qbf hg16]; simp only [B0,reduceIte,reduceEqDiff],by simp only [hg6,B0,reduceIte,reduceEqDiff]⟩
   rintro fr17 h20 ⟨hS21,f18,f19⟩
   simp only [List.drop_succ_cons,List.drop_zero]
   simp only [f19,hg6,qq,qb,zi,f18,qa,qj,B0,reduceIte,reduceEqDiff]
   have e22:=qi hF13
   exact hN5 _ _ ⟨hS21,by rw [←e22]; simp only [B0,reduceIte,reduceEqDiff]⟩
 rintro fr23 h25 ⟨hS26,f24⟩
 simp only [List.drop_succ_cons,List.drop_zero]
 simp only [f24,qe,qa,q9,B0,reduceIte,reduceEqDiff]
 have he:=qi hF9
 subst he
 simp only [zl,B0,reduceIte,reduceEqDiff]
 exact rfl
theorem qf4 {W:Nat→Bool}{h:Heap} (hW:∀ b,
  (geL h.length) b→W b=true) (x_0:Int) (r:Bool) (hF:some (k9 x_0)=some r) : Ret E W 122 [.int .i64 x_0] h
  (fun v h'=>cut h.length h' E.sz false 9 v=some (.bool r)):=by
 refine Ret.of (fn:=qo4) rfl (Run.of ?_)
 unfold k9 at hF
 have zf0:zb [.int .i64 x_0] 0 = .int .i64 x_0:=rfl
 generalize zb [.int .i64 x_0]=fr0 at zf0 ⊢
 have hS:Sep h (geL h.length) []:=Sep.nil h
 simp only [qo4,qf,qd,qe,qa,qrr,zf0,qv,qb,qc6,q9,B0,reduceIte,reduceEqDiff]
 have he:=qi hF
 subst he
 simp only [zl,B0,reduceIte,reduceEqDiff]
 exact rfl
theorem qjx {W:Nat→Bool}{h:Heap} (hW:∀ b,
  (geL h.length) b→W b=true) (x_0:Int) (y_1:Int) (r:Bool) (hF:some (qbi x_0 y_1)=some r) : Ret E W 118 [.int .i64 x_0,
  .int .i64 y_1] h (fun v h'=>cut h.length h' E.sz false 9 v=some (.bool r)):=by
 refine Ret.of (fn:=qo1) rfl (Run.of ?_)
 unfold qbi at hF
 have zf0:zb [.int .i64 x_0,.int .i64 y_1] 0 = .int .i64 x_0:=rfl
 have zf1:zb [.int .i64 x_0,.int .i64 y_1] 1 = .int .i64 y_1:=rfl
 generalize zb [.int .i64 x_0,.int .i64 y_1]=fr0 at zf0 zf1 ⊢
 have hS:Sep h (geL h.length) []:=Sep.nil h
 simp only [qo1,qf,qd,qe,qa,qq6,zf0,qz,B0,reduceIte,reduceEqDiff]
 refine jp rfl (qo zf zh) (qf4 (fun b hb=>decide_eq_true hb) x_0 _ rfl) ?_
 simp only [qe,B0,reduceIte,reduceEqDiff]
 refine ja 4 (fun fr' h'=>Sep h' (geL h.length) ([])∧fr' 11 = .bool ((k9 x_0)&&(!(k9 y_1)))∧fr' 0 = .int .i64 x_0∧fr' 1 = .int .i64 y_1)
   (fun Q1 hN2=>?_) ?_
 ·simp only [List.take_succ_cons,List.take_zero]
  simp only [qc (g:=7),B0,reduceIte,reduceEqDiff]
  refine qy (t:=(k9 x_0)) (fun hg3=>?_) (fun hg3=>?_)
  ·simp only [hg3,qc (g:=7),ze,zf1,qe,qz,B0,reduceIte,reduceEqDiff]
   refine jp rfl (qo zf zh) (qf4 (fun b hb=>decide_eq_true hb) y_1 _ rfl) ?_
   simp only [hg3,qc (g:=7),ze,js,qb,ki,qq,zj,qa,qj,B0,reduceIte,reduceEqDiff]
   exact hN2 _ _ ⟨hS,by rw [qba hg3]; simp only [B0,reduceIte,reduceEqDiff],zf0,zf1⟩
  ·simp only [hg3,qc (g:=7),jv,qq,qb,zi,qa,qj,B0,reduceIte,reduceEqDiff]
   exact hN2 _ _ ⟨hS,by rw [qbf hg3]; simp only [B0,reduceIte,reduceEqDiff],zf0,zf1⟩
 rintro fr4 h8 ⟨hS9,f5,f6,f7⟩
 simp only [List.drop_succ_cons,List.drop_zero]
 simp only [f5,qe,B0,reduceIte,reduceEqDiff]
 refine ja 4 (fun fr' h'=>Sep h' (geL h.length) ([])∧fr' 16 = .bool (((k9 x_0)&&(!(k9 y_1)))||(decide (x_0<y_1)))) (fun Q10 hN11=>?_) ?_
 ·simp only [List.take_succ_cons,List.take_zero]
  simp only [qc (g:=12),B0,reduceIte,reduceEqDiff]
  refine qy (t:=((k9 x_0)&&(!(k9 y_1)))) (fun hg12=>?_) (fun hg12=>?_)
  ·simp only [hg12,qc (g:=12),zq,qq,qb,zj,qa,qj,B0,reduceIte,reduceEqDiff]
   exact hN11 _ _ ⟨hS9,by rw [orT hg12]; simp only [B0,reduceIte,reduceEqDiff]⟩
  ·simp only [hg12,qc (g:=12),qn,f6,qe,f7,qv,qb,qdj,qq,zi,qa,qj,B0,reduceIte,reduceEqDiff]
   exact hN11 _ _ ⟨hS9,by rw [orF hg12]; simp only [B0,reduceIte,reduceEqDiff]⟩
 rintro fr13 h15 ⟨hS16,f14⟩
 simp only [List.drop_succ_cons,List.drop_zero]
 simp only [f14,qe,qa,q9,B0,reduceIte,reduceEqDiff]
 have he:=qi hF
 subst he
 simp only [zl,B0,reduceIte,reduceEqDiff]
 exact rfl
theorem qev {W:Nat→Bool}{h:Heap} (hW:∀ b,
  (geL h.length) b→W b=true) (x_0:Int) (r:Bool) (hF:some (yu x_0)=some r) : Ret E W 119 [.int .i64 x_0] h
  (fun v h'=>cut h.length h' E.sz false 9 v=some (.bool r)):=by
 refine Ret.of (fn:=qn3) rfl (Run.of ?_)
 unfold yu at hF
 have zf0:zb [.int .i64 x_0] 0 = .int .i64 x_0:=rfl
 generalize zb [.int .i64 x_0]=fr0 at zf0 ⊢
 have hS:Sep h (geL h.length) []:=Sep.nil h
 simp only [qn3,qf,qd,qe,qa,qsf,zf0,qv,qb,qc6,q9,B0,reduceIte,reduceEqDiff]
 have he:=qi hF
 subst he
 simp only [zl,B0,reduceIte,reduceEqDiff]
 exact rfl
theorem qff {W:Nat→Bool}{h:Heap} (hW:∀ b,
  (geL h.length) b→W b=true) (k:Nat) (x_0:List Int) (target_1:Int) (r:Int × Bool) (hF:yc k x_0 target_1=some r) : Ret E W 114 [lst cI x_0,
  .int .i64 target_1] h (fun v h'=>cut h.length h' E.sz false 9 v=some (.tup [.int .i64 r.1,.bool r.2])):=by
 refine Ret.of (fn:=qoe) rfl (Run.of ?_)
 unfold yc at hF
 have zf0:zb [lst cI x_0,.int .i64 target_1] 0=lst cI x_0:=rfl
 have zf1:zb [lst cI x_0,.int .i64 target_1] 1 = .int .i64 target_1:=rfl
 generalize zb [lst cI x_0,.int .i64 target_1]=fr0 at zf0 zf1 ⊢
 have hS:Sep h (geL h.length) []:=Sep.nil h
 simp only [qoe,qf,qd,qe,qa,qnz,zf0,zn,qb,zt,qr7,qpy,B0,reduceIte,reduceEqDiff]
 obtain ⟨oc7,hX9,hk10⟩:=kd hF
 simp only [qtc]
 refine qgm (σ:=Int × Int) (fun s36=>yf x_0 target_1 s36.1 s36.2)
   (fun s fr' h'=>fr' 0=lst cI x_0∧fr' 1 = .int .i64 target_1∧fr' 6 = .int .i64 (List.length x_0:Int)∧fr' 7 = .int .i64 s.1∧fr' 8 = .int .i64 s.2∧Sep h'
   (geL h.length) ([])) hX9 ⟨zf0,zf1,rfl,rfl,rfl,hS⟩ (fun _ _ _ h=>h) ?_ ?_
 ·rintro ⟨s3,s4⟩ fr19 h20 ⟨f22,f23,f24,f25,f26,hS21⟩ oc8 hF11 hr12 Q13 hN14 hK15 hR16 hE17
  dsimp only at *
  unfold yf at hF11
  simp only [qrv,qf,qd,f25,qe,f26,qv,qb,qdj,qa,za,B0,reduceIte,reduceEqDiff]
  refine q8 (t:=(decide (s3<s4))) (fun hc28=>?_) (fun hc28=>?_)
  ·rw [iteT hc28] at hF11
   obtain ⟨x29,hx30,hF31⟩:=qh hF11
   simp only [zc,qq0,qaw,qpp,qf,qd,f25,qe,f26,qv,qb,qbj,qj0,qjn,qnl (n:=1) (by decide),qa,
     qtd,f22,jg,B0,reduceIte,reduceEqDiff]
   refine qg (v := .ref (cI x29) 0) (yg hx30 rfl) ?_
   simp only [ql,B0,reduceIte,reduceEqDiff]
   refine qg (v := .int .i64 x29) rfl ?_
   simp only [f23,qe,qz,B0,reduceIte,reduceEqDiff]
   refine jp rfl (qo zf (qo zf zh)) (qjx (fun b hb=>decide_eq_true hb) x29 target_1 _ rfl) ?_
   simp only [qa,qup,za,B0,reduceIte,reduceEqDiff]
   refine q8 (t:=(qbi x29 target_1)) (fun hc32=>?_) (fun hc32=>?_)
   ·rw [iteT hc32] at hF31
    simp only [qd,qe,qv,qb,qbj,qa,qbc,qj,B0,reduceIte,reduceEqDiff]
    have e33:=qi hF31
    exact hN14 _ _ _ e33.symm ⟨f22,f23,f24,rfl,f26,hS21⟩
   rw [iteF hc32] at hF31
   simp only [qd,qe,qa,qbc,qj,B0,reduceIte,reduceEqDiff]
   have e34:=qi hF31
   exact hN14 _ _ _ e34.symm ⟨f22,f23,f24,f25,rfl,hS21⟩
  rw [iteF hc28] at hF11
  simp only [qdl,qcm,qea,B0,reduceIte,reduceEqDiff]
  have e35:=qi hF11
  exact hK15 _ _ _ e35.symm ⟨f22,f23,f24,f25,f26,hS21⟩
 rintro ⟨s37,s38⟩ fr39 h40 rfl ⟨f42,f43,f44,f45,f46,hS41⟩
 dsimp only [jnO] at hk10
 dsimp only at *
 unfold uf at hk10
 simp only [qp7,qf,qd,f45,qe,f44,qv,qb,qdj,B0,reduceIte,reduceEqDiff]
 obtain ⟨v50,hx51,hF52⟩:=qh hk10
 refine ja 18 (fun fr' h'=>Sep h' (geL h.length) ([])∧fr' 53 = .bool v50∧fr' 31 = .int .i64 s37) (fun Q47 hN48=>?_) ?_
 ·simp only [List.take_succ_cons,List.take_zero]
  simp only [qc (g:=35),B0,reduceIte,reduceEqDiff]
  refine qy (t:=(decide (s37<(List.length x_0:Int)))) (fun hg49=>?_) (fun hg49=>?_)
  ·rw [iteT hg49] at hx51
   obtain ⟨x53,hx54,hF55⟩:=qh hx51
   simp only [hg49,qc (g:=35),ze,f42,qe,f45,jg,B0,reduceIte,reduceEqDiff]
   refine qg (v := .ref (cI x53) 0) (yg hx54 rfl) ?_
   simp only [hg49,qc (g:=35),ze,ql,B0,reduceIte,reduceEqDiff]
   refine qg (v := .int .i64 x53) rfl ?_
   simp only [hg49,qc (g:=35),ze,f43,qe,qv,qb,yo,B0,reduceIte,reduceEqDiff]
   obtain ⟨v59,hx60,hF61⟩:=qh hF55
   refine ja 10 (fun fr' h'=>Sep h' (geL h.length) ([])∧fr' 52 = .bool v59∧fr' 31 = .int .i64 s37∧fr' 35 = .bool (decide (s37<(List.length x_0:Int))))
     (fun Q56 hN57=>?_) ?_
   ·simp only [List.take_succ_cons,List.take_zero]
    simp only [qc (g:=42),B0,reduceIte,reduceEqDiff]
    refine qy (t:=(decide (x53=target_1))) (fun hg58=>?_) (fun hg58=>?_)
    ·rw [iteT hg58] at hx60
     simp only [hg58,qc (g:=42),zq,qc (g:=48),y9,hg49,qc (g:=35),ze,qq,qb,zj,qa,
       qj,B0,reduceIte,reduceEqDiff]
     have e62:=qi hx60
     exact hN57 _ _ ⟨hS41,by rw [←e62]; simp only [B0,reduceIte,reduceEqDiff],rfl,by simp only [hg49,B0,reduceIte,reduceEqDiff]⟩
    ·rw [iteF hg58] at hx60
     obtain ⟨x63,hx64,hF65⟩:=qh hx60
     simp only [hg58,qc (g:=42),qn,f42,qe,f45,jg,B0,reduceIte,reduceEqDiff]
     refine qg (v := .ref (cI x63) 0) (yg hx64 rfl) ?_
     simp only [hg58,qc (g:=42),qn,ql,B0,reduceIte,reduceEqDiff]
     refine qg (v := .int .i64 x63) rfl ?_
     simp only [hg58,qc (g:=42),qn,qz,B0,reduceIte,reduceEqDiff]
     refine jp rfl (qo zf zh) (qev (fun b hb=>decide_eq_true hb) x63 _ rfl) ?_
     simp only [hg58,qc (g:=42),qn,qe,B0,reduceIte,reduceEqDiff]
     refine ja 3 (fun fr' h'=>Sep h' (geL h.length) ([])∧fr' 51 = .bool ((yu x63) &&
       (yu target_1))∧fr' 31 = .int .i64 s37∧fr' 35 = .bool (decide (s37<(List.length x_0:Int)))∧fr' 42 = .bool (decide (x53=target_1)))
       (fun Q66 hN67=>?_) ?_
     ·simp only [List.take_succ_cons,List.take_zero]
      simp only [qc (g:=48),B0,reduceIte,reduceEqDiff]
      refine qy (t:=(yu x63)) (fun hg68=>?_) (fun hg68=>?_)
      ·simp only [hg68,qc (g:=48),ze,f43,qe,qz,B0,reduceIte,reduceEqDiff]
       refine jp rfl (qo zf zh) (qev (fun b hb=>decide_eq_true hb) target_1 _ rfl) ?_
       simp only [hg58,qc (g:=42),qn,hg68,qq,qb,zj,qa,qj,B0,reduceIte,reduceEqDiff]
       exact hN67 _ _ ⟨hS41,by rw [qba hg68]; simp only [B0,reduceIte,reduceEqDiff],rfl,by simp only [hg49,B0,reduceIte,reduceEqDiff],by simp only [hg58,B0,
         reduceIte,reduceEqDiff]⟩
      ·simp only [hg68,qc (g:=48),jv,hg58,qc (g:=42),qn,qq,qb,zi,qa,qj,B0,reduceIte,
        reduceEqDiff]
       exact hN67 _ _ ⟨hS41,by rw [qbf hg68]; simp only [B0,reduceIte,reduceEqDiff],rfl,by simp only [hg49,B0,reduceIte,reduceEqDiff],by simp only [hg58,B0,
         reduceIte,reduceEqDiff]⟩
     rintro fr69 h74 ⟨hS75,f70,f71,f72,f73⟩
     simp only [List.drop_succ_cons,List.drop_zero]
     simp only [f72,hg49,qc (g:=35),ze,f73,hg58,qq,qb,zi,f70,qa,qj,B0,reduceIte,reduceEqDiff]
     have e76:=qi hF65
     exact hN57 _ _ ⟨hS75,by rw [←e76]; simp only [B0,reduceIte,reduceEqDiff],f71,by simp only [f72,hg49,B0,reduceIte,reduceEqDiff]⟩
   rintro fr77 h81 ⟨hS82,f78,f79,f80⟩
   simp only [List.drop_succ_cons,List.drop_zero]
   simp only [f80,hg49,qq,qb,zj,f78,qa,qj,B0,reduceIte,reduceEqDiff]
   have e83:=qi hF61
   exact hN48 _ _ ⟨hS82,by rw [←e83]; simp only [B0,reduceIte,reduceEqDiff],f79⟩
  ·rw [iteF hg49] at hx51
   simp only [hg49,qc (g:=35),jv,qc (g:=42),y9,qc (g:=48),qq,qb,zi,qa,qj,B0,reduceIte,
     reduceEqDiff]
   have e84:=qi hx51
   exact hN48 _ _ ⟨hS41,by rw [←e84]; simp only [B0,reduceIte,reduceEqDiff],rfl⟩
 rintro fr85 h88 ⟨hS89,f86,f87⟩
 simp only [List.drop_succ_cons,List.drop_zero]
 simp only [f87,qe,f86,qa,q9,B0,reduceIte,reduceEqDiff]
 have he:=qi hF52
 subst he
 simp only [qeh,B0,reduceIte,reduceEqDiff]
 exact qgg (qo rfl (qo rfl zh))
end Go.Proofs.Ytpddolihbnfahaa.X
