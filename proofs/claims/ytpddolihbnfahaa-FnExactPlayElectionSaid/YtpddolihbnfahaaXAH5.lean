/- The functions' code comes to what the plain functions say (5). -/
import Derived.Test.YtpddolihbnfahaaXAH4
set_option linter.unusedVariables false
set_option linter.unusedSimpArgs false
set_option maxRecDepth 100000
namespace Go.Proofs.Ytpddolihbnfahaa.X
open Go
open Nat (reduceEqDiff)
theorem qlm {W:Nat→Bool}{h:Heap} (hW:∀ b,
  (geL h.length) b→W b=true) (k:Nat) (a_0:List (List Int)) (left_1:Int) (r:Int) (hF:qcu k a_0 left_1=some r) : Ret E W 30 [lst (cL cI) a_0,
  .int .i64 left_1] h (fun v h'=>cut h.length h' E.sz false 9 v=some (.int .i64 r)):=by
 refine Ret.of (fn:=x30) rfl (Run.of ?_)
 unfold qcu at hF
 have zf0:qy [lst (cL cI) a_0,.int .i64 left_1] 0=lst (cL cI) a_0:=rfl
 have zf1:qy [lst (cL cI) a_0,.int .i64 left_1] 1 = .int .i64 left_1:=rfl
 generalize qy [lst (cL cI) a_0,.int .i64 left_1]=fr0 at zf0 zf1 ⊢
 have hS:Sep h (geL h.length) []:=Sep.nil h
 simp only [x30,qd,qc,qe,qa,q5z,zf1,zf0,zj,qb,zr,qm,qcz,qz0,kr,qr,B0,reduceIte,reduceEqDiff]
 refine qq (t:=(decide ((IntKind.wrap .i64 (left_1 - (List.length a_0:Int)))<0))) (fun hc1=>?_) (fun hc1=>?_)
 ·rw [iteT hc1] at hF
  simp only [qd,qc,qe,qa,qs,B0,reduceIte,reduceEqDiff]
  have he:=qf hF
  subst he
  simp only [qw,B0,reduceIte,reduceEqDiff]
  exact rfl
 rw [iteF hc1] at hF
 simp only [qt,q35,qd,qc,qe,qa,B0,reduceIte,reduceEqDiff]
 obtain ⟨oc8,hX10,hk11⟩:=jm hF
 simp only [q7k]
 refine yb (σ:=Int × Int) (fun s40=>qbd a_0 s40.1 s40.2) (fun s fr' h'=>fr' 0=lst (cL cI) a_0∧fr' 1 = .int .i64 s.1∧fr' 5 = .int .i64 s.2∧Sep h'
   (geL h.length) ([])) hX10 ⟨zf0,rfl,rfl,hS⟩ (fun _ _ _ h=>h) ?_ ?_
 ·rintro ⟨s4,s5⟩ fr20 h21 ⟨f23,f24,f25,hS22⟩ oc9 hF12 hr13 Q14 hN15 hK16 hR17 hE18
  dsimp only at *
  unfold qbd at hF12
  simp only [q3m,qd,qc,f25,qe,f23,zj,qb,zr,qm,kr,qa,qr,B0,reduceIte,reduceEqDiff]
  refine qq (t:=(decide (s5<(List.length a_0:Int)))) (fun hc27=>?_) (fun hc27=>?_)
  ·rw [iteT hc27] at hF12
   obtain ⟨x28,hx29,hF30⟩:=qi hF12
   simp only [qt,q32,qd,jq,q4i,qc,f23,qe,f25,zt,B0,reduceIte,reduceEqDiff]
   refine qh (v := .ref ((cL cI) x28) 0) (je hx29 rfl) ?_
   simp only [qj,B0,reduceIte,reduceEqDiff]
   refine qh (v:=lst cI x28) rfl ?_
   obtain ⟨v31,hx32,hF33⟩:=qi hF30
   simp only [f24,qe,zb,B0,reduceIte,reduceEqDiff]
   refine jg rfl (qk zx (qk za zd)) (qmu (fun b hb=>decide_eq_true hb) x28 s4 v31 hx32) ?_
   simp only [qe,qa,q0l,qd,qc,qm,qb,kr,qr,B0,reduceIte,reduceEqDiff]
   refine qq (t:=(decide (v31<0))) (fun hc34=>?_) (fun hc34=>?_)
   ·rw [iteT hc34] at hF33
    simp only [qd,qc,qe,qa,qs,B0,reduceIte,reduceEqDiff]
    have e35:=qf hF33
    subst e35
    have ho36:=hr13 _ rfl
    have hk37:=hk11
    rw [ho36] at hk37
    dsimp only [jnO] at hk37
    apply hR17
    have he:=qf hk37
    subst he
    simp only [qw,B0,reduceIte,reduceEqDiff]
    exact rfl
   rw [iteF hc34] at hF33
   simp only [qt,kh,qc,f25,qe,qm,qb,j8,qa,ql,B0,reduceIte,reduceEqDiff]
   have e38:=qf hF33
   exact hN15 _ _ _ e38.symm ⟨f23,rfl,rfl,hS22⟩
  rw [iteF hc27] at hF12
  simp only [kg,ka,ky,B0,reduceIte,reduceEqDiff]
  have e39:=qf hF12
  exact hK16 _ _ _ e39.symm ⟨f23,f24,f25,hS22⟩
 rintro ⟨s41,s42⟩ fr43 h44 rfl ⟨f46,f47,f48,hS45⟩
 dsimp only [jnO] at hk11
 dsimp only at *
 unfold qhe at hk11
 simp only [qd,qc,f47,qe,qa,qs,B0,reduceIte,reduceEqDiff]
 have he:=qf hk11
 subst he
 simp only [qw,B0,reduceIte,reduceEqDiff]
 exact rfl
theorem qiu {W:Nat→Bool}{h:Heap} (hW:∀ b,
  (geL h.length) b→W b=true) (a_0:List ElectStep) (left_1:Int) (r:Int) (hF:ux a_0 left_1=some r) : Ret E W 31 [lst ElectStep.cells a_0,
  .int .i64 left_1] h (fun v h'=>cut h.length h' E.sz false 9 v=some (.int .i64 r)):=by
 refine Ret.of (fn:=x31) rfl (Run.of ?_)
 unfold ux at hF
 have zf0:qy [lst ElectStep.cells a_0,.int .i64 left_1] 0=lst ElectStep.cells a_0:=rfl
 have zf1:qy [lst ElectStep.cells a_0,.int .i64 left_1] 1 = .int .i64 left_1:=rfl
 generalize qy [lst ElectStep.cells a_0,.int .i64 left_1]=fr0 at zf0 zf1 ⊢
 have hS:Sep h (geL h.length) []:=Sep.nil h
 simp only [x31,qd,qc,qe,qa,q6j,zf1,zf0,zj,qb,zr,qm,qcz,q11,kr,qr,B0,reduceIte,reduceEqDiff]
 refine qq (t:=(decide ((IntKind.wrap .i64 (left_1 - (List.length a_0:Int)))<0))) (fun hc1=>?_) (fun hc1=>?_)
 ·rw [iteT hc1] at hF
  simp only [qd,qc,qe,qa,qs,B0,reduceIte,reduceEqDiff]
  have he:=qf hF
  subst he
  simp only [qw,B0,reduceIte,reduceEqDiff]
  exact rfl
 rw [iteF hc1] at hF
 simp only [qt,qd,qc,qe,qa,qs,B0,reduceIte,reduceEqDiff]
 have he:=qf hF
 subst he
 simp only [qw,B0,reduceIte,reduceEqDiff]
 exact rfl
theorem qmy {W:Nat→Bool}{h:Heap} (hW:∀ b,
  (geL h.length) b→W b=true) (k:Nat) (a_0:List Int) (r:List Int) (hF:qdq k a_0=some r) : Ret E W 71 [lst cI a_0] h (fun v h'=>∃ rv0 rc0,
  v=rv0∧SlF cI 1 3 rv0 r rc0∧Sep h' (geL h.length) (rc0++([]))):=by
 refine Ret.of (fn:=x71) rfl (Run.of ?_)
 unfold qdq at hF
 have zf0:qy [lst cI a_0] 0=lst cI a_0:=rfl
 generalize qy [lst cI a_0]=fr0 at zf0 ⊢
 have hS:Sep h (geL h.length) []:=Sep.nil h
 obtain ⟨l1,hx2,hF3⟩:=qi hF
 simp only [x71,qd,qc,qe,qa,q3s,zf0,zj,qb,zr,qlj,B0,reduceIte,reduceEqDiff]
 refine qme (f:=cI) (z:=(0:Int)) hS hx2 rfl (fun v4 c5 h6 hv7 hS8=>?_)
 simp only [qe,qa,q4u,qd,qc,B0,reduceIte,reduceEqDiff]
 obtain ⟨oc20,hX22,hk23⟩:=jm hF3
 simp only [q7p]
 refine yb (σ:=Int × (List Int)) (fun s55=>qb5 a_0 s55.1 s55.2) (fun s fr' h'=>∃ c16,
   fr' 0=lst cI a_0∧fr' 3=v4∧fr' 4 = .int .i64 s.1∧SlF cI 1 3 v4 s.2 c16∧Sep h' (geL h.length) (c16++([]))) hX22 ⟨c5,zf0,rfl,rfl,hv7,
   hS8⟩ (fun _ _ _ h=>h) ?_ ?_
 ·rintro ⟨s14,s15⟩ fr32 h33 ⟨c16,f35,f36,f37,hv17,hS34⟩ oc21 hF24 hr25 Q26 hN27 hK28 hR29 hE30
  dsimp only at *
  unfold qb5 at hF24
  simp only [q6q,qd,qc,f37,qe,f35,zj,qb,zr,qm,kr,qa,qr,B0,reduceIte,reduceEqDiff]
  refine qq (t:=(decide (s14<(List.length a_0:Int)))) (fun hc39=>?_) (fun hc39=>?_)
  ·rw [iteT hc39] at hF24
   obtain ⟨x40,hx41,hF42⟩:=qi hF24
   simp only [qt,q6o,qd,jq,q5g,qc,f36,qe,f37,f35,zt,B0,reduceIte,reduceEqDiff]
   refine qh (v := .ref (cI x40) 0) (je hx41 rfl) ?_
   simp only [qj,B0,reduceIte,reduceEqDiff]
   refine qh (v := .int .i64 x40) rfl ?_
   obtain ⟨x43,hx44,hF45⟩:=qi hF42
   simp only [zt,B0,reduceIte,reduceEqDiff]
   obtain ⟨b46,hb47⟩:=SlF.isrow hv17 (yo hx44)
   refine qh (SlF.ia hv17 hb47 hx44) ?_
   simp only [ze,B0,reduceIte,reduceEqDiff]
   refine ws (f:=cI) (x':=x40) (o:=0) hv17 hS34 hW hb47 hx44 (fun _=>rfl) rfl rfl (Nat.le_of_ble_eq_true rfl) rfl (fun c50 h48 hv51 hS49=>?_)
   have hx52:=jz (x':=x40) hx44
   simp only [qa,kh,qc,f37,qe,qm,qb,j8,ql,B0,reduceIte,reduceEqDiff]
   have e53:=qf hF45
   exact hN27 _ _ _ e53.symm ⟨c50,f35,f36,rfl,hv51,hS49⟩
  rw [iteF hc39] at hF24
  simp only [kg,ka,ky,B0,reduceIte,reduceEqDiff]
  have e54:=qf hF24
  exact hK28 _ _ _ e54.symm ⟨c16,f35,f36,f37,hv17,hS34⟩
 rintro ⟨s56,s57⟩ fr60 h61 rfl ⟨c58,f63,f64,f65,hv59,hS62⟩
 dsimp only [jnO] at hk23
 dsimp only at *
 unfold qhq at hk23
 simp only [qd,qc,f64,qe,qa,qs,B0,reduceIte,reduceEqDiff]
 have he:=qf hk23
 subst he
 simp only [qw,B0,reduceIte,reduceEqDiff]
 exact ⟨v4,c58,by first | trivial | rfl,hv59,hS62⟩
theorem qdm {W:Nat→Bool}{h:Heap} (hW:∀ b,
  (geL h.length) b→W b=true) (k:Nat) (a_0:List (List Int)) (r:List (List Int)) (hF:x6 k a_0=some r) : Ret E W 32 [lst (cL cI) a_0] h
  (fun v h'=>∃ rv0 rc0,v=rv0∧SlN RL44 1 44 rv0 r rc0∧Sep h' (geL h.length) (rc0++([]))):=by
 refine Ret.of (fn:=x32) rfl (Run.of ?_)
 unfold x6 at hF
 have zf0:qy [lst (cL cI) a_0] 0=lst (cL cI) a_0:=rfl
 generalize qy [lst (cL cI) a_0]=fr0 at zf0 ⊢
 have hS:Sep h (geL h.length) []:=Sep.nil h
 obtain ⟨l1,hx2,hF3⟩:=qi hF
 simp only [x32,qd,qc,qe,qa,q0r,zf0,zj,qb,zr,qlj,B0,reduceIte,reduceEqDiff]
 refine qua (R:=RL44) (e:=[]) (z:=[.nil]) hS hx2 (RL44I (x:=[]) SlF.nil) rfl (fun v4 c5 h6 hv7 hS8=>?_)
 simp only [qe,qa,q1p,qd,qc,B0,reduceIte,reduceEqDiff]
 obtain ⟨oc20,hX22,hk23⟩:=jm hF3
 simp only [q63]
 refine yb (σ:=Int × (List (List Int))) (fun s82=>qbe k a_0 s82.1 s82.2) (fun s fr' h'=>∃ c16,
   fr' 0=lst (cL cI) a_0∧fr' 3=v4∧fr' 4 = .int .i64 s.1∧SlN RL44 1 44 v4 s.2 c16∧Sep h' (geL h.length) (c16++([]))) hX22 ⟨c5,zf0,rfl,rfl,hv7,
   hS8⟩ (fun _ _ _ h=>h) ?_ ?_
 ·rintro ⟨s14,s15⟩ fr32 h33 ⟨c16,f35,f36,f37,hv17,hS34⟩ oc21 hF24 hr25 Q26 hN27 hK28 hR29 hE30
  dsimp only at *
  unfold qbe at hF24
  simp only [qy8,qd,qc,f37,qe,f35,zj,qb,zr,qm,kr,qa,qr,B0,reduceIte,reduceEqDiff]
  refine qq (t:=(decide (s14<(List.length a_0:Int)))) (fun hc39=>?_) (fun hc39=>?_)
  ·rw [iteT hc39] at hF24
   obtain ⟨x40,hx41,hF42⟩:=qi hF24
   simp only [qt,q4o,qd,jq,q19,qc,f36,qe,f37,f35,zt,B0,reduceIte,reduceEqDiff]
   refine qh (v := .ref ((cL cI) x40) 0) (je hx41 rfl) ?_
   simp only [qj,B0,reduceIte,reduceEqDiff]
   refine qh (v:=lst cI x40) rfl ?_
   obtain ⟨v43,hx44,hF45⟩:=qi hF42
   simp only [zb,B0,reduceIte,reduceEqDiff]
   refine qba rfl hS34 (qk zx zd) (qmy (fun b hb=>decide_eq_true hb) k x40 v43 hx44) ?_
   rintro v46 h50 ⟨_,c47,rfl,hv48,hS51⟩
   refine ⟨_,qeo (SlF.free1 hv48),hS51,(j0 (SlF.pf hv48 (fun _=>rfl)) xv),fun h52 hS53=>?_⟩
   have hS54:Sep h52 (geL h.length) (c47++(c16++([]))):=by simpa only [List.append_assoc,List.nil_append] using hS53
   obtain ⟨x55,hx56,hF57⟩:=qi hF45
   simp only [zt,B0,reduceIte,reduceEqDiff]
   obtain ⟨b58,hb59⟩:=SlN.isrow hv17 (yo hx56)
   refine qh (SlN.ia hv17 hb59 hx56) ?_
   obtain ⟨c62,cs63,os64,hv65,hR66,hS67⟩:=SlG.opn (SlN.toG hv17 hb59 RL44O.len) hx56 jp RL44O.len (Sep.m1 hS54)
   obtain ⟨v69,c70,hv71,rfl,rfl⟩:=hR66
   have hS68:=Sep.no1 hS67
   simp only [ze,B0,reduceIte,reduceEqDiff]
   refine k8 (n:=1) (us:=[v46]) (cs:=[v69]) (o:=0) (cs':=[v46]) (jl (SlF.one hv48)) hv65 rfl hx56 hS68 hW rfl (qo (SlF.one hv48) zn)
     (Nat.le_of_ble_eq_true rfl) rfl (fun c73 h60 hv74 hS61=>?_)
   simp only [qa,kh,qc,f37,qe,qm,qb,j8,ql,B0,reduceIte,reduceEqDiff]
   obtain ⟨c75,hv76,hS77⟩:=SlG.cls (e':=v43) (c:=c73) (os:=c47) hv74 rfl hx56 jp (RL44I (x:=v43) hv48) (Sep.m1 (Sep.m2 hS61))
   have hx78:=jz (x':=v43) hx56
   have hv79:=SlG.toN hv76
   have e80:=qf hF57
   exact hN27 _ _ _ e80.symm ⟨c75,f35,f36,rfl,hv79,(Sep.dc (Sep.m1 hS77))⟩
  rw [iteF hc39] at hF24
  simp only [kg,ka,ky,B0,reduceIte,reduceEqDiff]
  have e81:=qf hF24
  exact hK28 _ _ _ e81.symm ⟨c16,f35,f36,f37,hv17,hS34⟩
 rintro ⟨s83,s84⟩ fr87 h88 rfl ⟨c85,f90,f91,f92,hv86,hS89⟩
 dsimp only [jnO] at hk23
 dsimp only at *
 unfold qg5 at hk23
 simp only [qd,qc,f91,qe,qa,qs,B0,reduceIte,reduceEqDiff]
 have he:=qf hk23
 subst he
 simp only [qw,B0,reduceIte,reduceEqDiff]
 exact ⟨v4,c85,by first | trivial | rfl,hv86,hS89⟩
theorem qi0 {W:Nat→Bool}{h:Heap} (hW:∀ b,
  (geL h.length) b→W b=true) (a_0:ElectStep) (r:ElectStep) (hF:some (qac a_0)=some r) : Ret E W 46 [.agg [.int .i64 a_0.Term,
  .int .i64 a_0.Leader]] h (fun v h'=>cut h.length h' E.sz false 9 v=some (.agg [.int .i64 r.Term,.int .i64 r.Leader])):=by
 refine Ret.of (fn:=x46) rfl (Run.of ?_)
 unfold qac at hF
 have zf0:qy [.agg [.int .i64 a_0.Term,.int .i64 a_0.Leader]] 0 = .agg [.int .i64 a_0.Term,.int .i64 a_0.Leader]:=rfl
 generalize qy [.agg [.int .i64 a_0.Term,.int .i64 a_0.Leader]]=fr0 at zf0 ⊢
 have hS:Sep h (geL h.length) []:=Sep.nil h
 simp only [x46,qd,qc,kx,zf0,B0,reduceIte,reduceEqDiff]
 refine ju (cs:=[.int .i64 a_0.Term,.int .i64 a_0.Leader]) hS rfl rfl rfl (fun b1 h2 hS3=>?_)
 simp only [jv,B0,reduceIte,reduceEqDiff]
 refine jb hS3 (fun b5 h6 hS7=>?_)
 simp only [qa,B0,reduceIte,reduceEqDiff]
 refine jd (Sep.m1 hS7) hW (by simp only [B0,reduceIte,reduceEqDiff]) (fun h9 hS10=>?_)
 simp only [jc,q03,qd,qc,jv,B0,reduceIte,reduceEqDiff]
 refine jb hS10 (fun b11 h12 hS13=>?_)
 simp only [qa,qzl,qd,qc,qn,qb,Nat.reduceAdd,Nat.zero_add,Nat.add_zero,qu,qj,B0,reduceIte,reduceEqDiff]
 refine qh (v := .int .i64 a_0.Term) rfl ?_
 simp only [qn,qb,Nat.reduceAdd,Nat.zero_add,Nat.add_zero,qx,ze,B0,reduceIte,reduceEqDiff]
 refine zc (us:=[.int .i64 a_0.Term]) rfl (cs':=[.int .i64 a_0.Term,.int .i64 0]) hS13 hW rfl rfl (Nat.le_of_ble_eq_true rfl) rfl (fun h15 hS16=>?_)
 simp only [qa,q04,qd,qc,qn,qb,Nat.reduceAdd,Nat.zero_add,Nat.add_zero,qu,qj,B0,reduceIte,reduceEqDiff]
 refine qh (v := .int .i64 a_0.Leader) rfl ?_
 simp only [qn,qb,Nat.reduceAdd,Nat.zero_add,Nat.add_zero,qx,ze,B0,reduceIte,reduceEqDiff]
 refine zc (us:=[.int .i64 a_0.Leader]) rfl (cs':=[.int .i64 a_0.Term,.int .i64 a_0.Leader]) hS16 hW rfl rfl (Nat.le_of_ble_eq_true rfl) rfl (fun h17 hS18=>?_)
 simp only [qa,qd,qc,qj,B0,reduceIte,reduceEqDiff]
 refine qh (v := .agg [.int .i64 a_0.Term,.int .i64 a_0.Leader]) ((zw (Sep.bk _ _ _ hS18)).trans rfl) ?_
 simp only [ze,B0,reduceIte,reduceEqDiff]
 refine zc (us:=[.int .i64 a_0.Term,.int .i64 a_0.Leader]) rfl (cs':=[.int .i64 a_0.Term,
   .int .i64 a_0.Leader]) (Sep.m1 hS18) hW rfl rfl (Nat.le_of_ble_eq_true rfl) rfl (fun h19 hS20=>?_)
 simp only [qa,qs,B0,reduceIte,reduceEqDiff]
 have he:=qf hF
 subst he
 refine qah (bb:=b5) (oo:=0) (v := .agg [.int .i64 a_0.Term,.int .i64 a_0.Leader]) (by simp only [B0,reduceIte,
   reduceEqDiff]) ((zw (Sep.bk _ _ _ hS20)).trans rfl) ?_
 exact (q75 (qk rfl (qk rfl zd)))
theorem qaq {W:Nat→Bool}{h:Heap} (hW:∀ b,
  (geL h.length) b→W b=true) (k:Nat) (a_0:List ElectStep) (r:List ElectStep) (hF:yp k a_0=some r) : Ret E W 33 [lst ElectStep.cells a_0] h
  (fun v h'=>∃ rv0 rc0,v=rv0∧SlF ElectStep.cells 2 49 rv0 r rc0∧Sep h' (geL h.length) (rc0++([]))):=by
 refine Ret.of (fn:=x33) rfl (Run.of ?_)
 unfold yp at hF
 have zf0:qy [lst ElectStep.cells a_0] 0=lst ElectStep.cells a_0:=rfl
 generalize qy [lst ElectStep.cells a_0]=fr0 at zf0 ⊢
 have hS:Sep h (geL h.length) []:=Sep.nil h
 obtain ⟨l1,hx2,hF3⟩:=qi hF
 simp only [x33,qd,qc,qe,qa,q2l,zf0,zj,qb,zr,qlj,B0,reduceIte,reduceEqDiff]
 refine qme (f:=ElectStep.cells) (z:=(ElectStep.mk (0:Int) (0:Int))) hS hx2 rfl (fun v4 c5 h6 hv7 hS8=>?_)
 simp only [qe,qa,q0k,qd,qc,B0,reduceIte,reduceEqDiff]
 obtain ⟨oc20,hX22,hk23⟩:=jm hF3
 simp only [q01]
 refine yb (σ:=Int × (List ElectStep)) (fun s55=>xg a_0 s55.1 s55.2) (fun s fr' h'=>∃ c16,
   fr' 0=lst ElectStep.cells a_0∧fr' 3=v4∧fr' 4 = .int .i64 s.1∧SlF ElectStep.cells 2 49 v4 s.2 c16∧Sep h' (geL h.length) (c16++([]))) hX22 ⟨c5,zf0,rfl,rfl,
   hv7,hS8⟩ (fun _ _ _ h=>h) ?_ ?_
 ·rintro ⟨s14,s15⟩ fr32 h33 ⟨c16,f35,f36,f37,hv17,hS34⟩ oc21 hF24 hr25 Q26 hN27 hK28 hR29 hE30
  dsimp only at *
  unfold xg at hF24
  simp only [q6p,qd,qc,f37,qe,f35,zj,qb,zr,qm,kr,qa,qr,B0,reduceIte,reduceEqDiff]
  refine qq (t:=(decide (s14<(List.length a_0:Int)))) (fun hc39=>?_) (fun hc39=>?_)
  ·rw [iteT hc39] at hF24
   obtain ⟨x40,hx41,hF42⟩:=qi hF24
   simp only [qt,q5c,qd,jq,qzp,qc,f36,qe,f37,f35,zt,B0,reduceIte,reduceEqDiff]
   refine qh (v := .ref (ElectStep.cells x40) 0) (je hx41 rfl) ?_
   simp only [qj,B0,reduceIte,reduceEqDiff]
   refine qh (v := .agg [.int .i64 x40.Term,.int .i64 x40.Leader]) rfl ?_
   simp only [zb,B0,reduceIte,reduceEqDiff]
   refine jg rfl (qk (kq (qk za (qk za zd))) zd) (qi0 (fun b hb=>decide_eq_true hb) x40 _ rfl) ?_
   obtain ⟨x43,hx44,hF45⟩:=qi hF42
   simp only [zt,B0,reduceIte,reduceEqDiff]
   obtain ⟨b46,hb47⟩:=SlF.isrow hv17 (yo hx44)
   refine qh (SlF.ia hv17 hb47 hx44) ?_
   simp only [ze,B0,reduceIte,reduceEqDiff]
   refine ws (f:=ElectStep.cells) (x':=(qac x40)) (o:=0) hv17 hS34 hW hb47 hx44 (fun _=>rfl) rfl rfl (Nat.le_of_ble_eq_true rfl) rfl
     (fun c50 h48 hv51 hS49=>?_)
   have hx52:=jz (x':=(qac x40)) hx44
   simp only [qa,kh,qc,f37,qe,qm,qb,j8,ql,B0,reduceIte,reduceEqDiff]
   have e53:=qf hF45
   exact hN27 _ _ _ e53.symm ⟨c50,f35,f36,rfl,hv51,hS49⟩
  rw [iteF hc39] at hF24
  simp only [kg,ka,ky,B0,reduceIte,reduceEqDiff]
  have e54:=qf hF24
  exact hK28 _ _ _ e54.symm ⟨c16,f35,f36,f37,hv17,hS34⟩
 rintro ⟨s56,s57⟩ fr60 h61 rfl ⟨c58,f63,f64,f65,hv59,hS62⟩
 dsimp only [jnO] at hk23
 dsimp only at *
 unfold qeq at hk23
 simp only [qd,qc,f64,qe,qa,qs,B0,reduceIte,reduceEqDiff]
 have he:=qf hk23
 subst he
 simp only [qw,B0,reduceIte,reduceEqDiff]
 exact ⟨v4,c58,by first | trivial | rfl,hv59,hS62⟩
theorem qf0 {W:Nat→Bool}{h:Heap} (hW:∀ b,
  (geL h.length) b→W b=true) (k:Nat) (a_0:List Int) (b_1:List Int) (r:Bool) (hF:qbn k a_0 b_1=some r) : Ret E W 75 [lst cI a_0,
  lst cI b_1] h (fun v h'=>cut h.length h' E.sz false 9 v=some (.bool r)):=by
 refine Ret.of (fn:=x75) rfl (Run.of ?_)
 unfold qbn at hF
 have zf0:qy [lst cI a_0,lst cI b_1] 0=lst cI a_0:=rfl
 have zf1:qy [lst cI a_0,lst cI b_1] 1=lst cI b_1:=rfl
 generalize qy [lst cI a_0,lst cI b_1]=fr0 at zf0 zf1 ⊢
 have hS:Sep h (geL h.length) []:=Sep.nil h
 simp only [x75,qd,qc,qe,qa,q3j,zf0,zj,qb,zr,zf1,qm,yq,qr,B0,reduceIte,reduceEqDiff]
 refine qq (t:=(decide ((List.length a_0:Int)≠(List.length b_1:Int)))) (fun hc1=>?_) (fun hc1=>?_)
 ·rw [iteT hc1] at hF
  simp only [qd,qc,qe,qa,qs,B0,reduceIte,reduceEqDiff]
  have he:=qf hF
  subst he
  simp only [qw,B0,reduceIte,reduceEqDiff]
  exact rfl
 rw [iteF hc1] at hF
 simp only [qt,q0c,qd,qc,qe,qa,B0,reduceIte,reduceEqDiff]
 obtain ⟨oc6,hX8,hk9⟩:=jm hF
 simp only [q2a]
 refine yb (σ:=Int) (fun s38=>qb3 a_0 b_1 s38) (fun s fr' h'=>fr' 0=lst cI a_0∧fr' 1=lst cI b_1∧fr' 5 = .int .i64 s∧Sep h' (geL h.length)
   ([])) hX8 ⟨zf0,zf1,rfl,hS⟩ (fun _ _ _ h=>h) ?_ ?_
 ·rintro s3 fr18 h19 ⟨f21,f22,f23,hS20⟩ oc7 hF10 hr11 Q12 hN13 hK14 hR15 hE16
  unfold qb3 at hF10
  simp only [q4b,qd,qc,f23,qe,f21,zj,qb,zr,qm,kr,qa,qr,B0,reduceIte,reduceEqDiff]
  refine qq (t:=(decide (s3<(List.length a_0:Int)))) (fun hc25=>?_) (fun hc25=>?_)
  ·rw [iteT hc25] at hF10
   obtain ⟨x26,hx27,hF28⟩:=qi hF10
   simp only [qt,q3b,qd,jq,q6z,j5,f21,ja,qp,f23,qbq,B0,reduceIte,reduceEqDiff]
   refine q9 (v := .ref (cI x26) 0) (je hx27 rfl) ?_
   simp only [z8,B0,reduceIte,reduceEqDiff]
   refine q9 (v := .int .i64 x26) rfl ?_
   obtain ⟨x29,hx30,hF31⟩:=qi hF28
   simp only [f22,ja,qp,f23,qbq,B0,reduceIte,reduceEqDiff]
   refine q9 (v := .ref (cI x29) 0) (je hx30 rfl) ?_
   simp only [z8,B0,reduceIte,reduceEqDiff]
   refine q9 (v := .int .i64 x29) rfl ?_
   simp only [qbs,qp,yq,zk,qr,B0,reduceIte,reduceEqDiff]
   refine qq (t:=(decide (x26≠x29))) (fun hc32=>?_) (fun hc32=>?_)
   ·rw [iteT hc32] at hF31
    simp only [qd,qc,qe,qa,qs,B0,reduceIte,reduceEqDiff]
    have e33:=qf hF31
    subst e33
    have ho34:=hr11 _ rfl
    have hk35:=hk9
    rw [ho34] at hk35
    dsimp only [jnO] at hk35
    apply hR15
    have he:=qf hk35
    subst he
    simp only [qw,B0,reduceIte,reduceEqDiff]
    exact rfl
   rw [iteF hc32] at hF31
   simp only [qt,kh,qc,f23,qe,qm,qb,j8,qa,ql,B0,reduceIte,reduceEqDiff]
   have e36:=qf hF31
   exact hN13 _ _ _ e36.symm ⟨f21,f22,rfl,hS20⟩
  rw [iteF hc25] at hF10
  simp only [kg,ka,ky,B0,reduceIte,reduceEqDiff]
  have e37:=qf hF10
  exact hK14 _ _ _ e37.symm ⟨f21,f22,f23,hS20⟩
 rintro s39 fr40 h41 rfl ⟨f43,f44,f45,hS42⟩
 dsimp only [jnO] at hk9
 unfold qho at hk9
 simp only [qd,qc,qe,qa,qs,B0,reduceIte,reduceEqDiff]
 have he:=qf hk9
 subst he
 simp only [qw,B0,reduceIte,reduceEqDiff]
 exact rfl
theorem qk7 {W:Nat→Bool}{h:Heap} (hW:∀ b,
  (geL h.length) b→W b=true) (k:Nat) (a_0:Server) (b_1:Server) (r:Bool) (hF:qci k a_0 b_1=some r) : Ret E W 105 [.agg [.int .i64 a_0.Term,
  .int .i64 a_0.Voted,.bool a_0.Stands,.bool a_0.Leads,lst cI a_0.Got,lst cI a_0.Log],.agg [.int .i64 b_1.Term,.int .i64 b_1.Voted,.bool b_1.Stands,.bool b_1.Leads,
  lst cI b_1.Got,lst cI b_1.Log]] h (fun v h'=>cut h.length h' E.sz false 9 v=some (.bool r)):=by
 refine Ret.of (fn:=qp9) rfl (Run.of ?_)
 unfold qci at hF
 have zf0:qy [.agg [.int .i64 a_0.Term,.int .i64 a_0.Voted,.bool a_0.Stands,.bool a_0.Leads,lst cI a_0.Got,lst cI a_0.Log],.agg [.int .i64 b_1.Term,
   .int .i64 b_1.Voted,.bool b_1.Stands,.bool b_1.Leads,lst cI b_1.Got,lst cI b_1.Log]] 0 = .agg [.int .i64 a_0.Term,.int .i64 a_0.Voted,.bool a_0.Stands,
   .bool a_0.Leads,lst cI a_0.Got,lst cI a_0.Log]:=rfl
 have zf1:qy [.agg [.int .i64 a_0.Term,.int .i64 a_0.Voted,.bool a_0.Stands,.bool a_0.Leads,lst cI a_0.Got,lst cI a_0.Log],.agg [.int .i64 b_1.Term,
   .int .i64 b_1.Voted,.bool b_1.Stands,.bool b_1.Leads,lst cI b_1.Got,lst cI b_1.Log]] 1 = .agg [.int .i64 b_1.Term,.int .i64 b_1.Voted,.bool b_1.Stands,
   .bool b_1.Leads,lst cI b_1.Got,lst cI b_1.Log]:=rfl
 generalize qy [.agg [.int .i64 a_0.Term,.int .i64 a_0.Voted,.bool a_0.Stands,.bool a_0.Leads,lst cI a_0.Got,lst cI a_0.Log],.agg [.int .i64 b_1.Term,
   .int .i64 b_1.Voted,.bool b_1.Stands,.bool b_1.Leads,lst cI b_1.Got,lst cI b_1.Log]]=fr0 at zf0 zf1 ⊢
 have hS:Sep h (geL h.length) []:=Sep.nil h
 simp only [qp9,qd,qc,kx,zf0,B0,reduceIte,reduceEqDiff]
 refine ju (cs:=[.int .i64 a_0.Term,.int .i64 a_0.Voted,.bool a_0.Stands,.bool a_0.Leads,lst cI a_0.Got,lst cI a_0.Log]) hS rfl rfl rfl (fun b1 h2 hS3=>?_)
 simp only [kx,zf1,B0,reduceIte,reduceEqDiff]
 refine ju (cs:=[.int .i64 b_1.Term,.int .i64 b_1.Voted,.bool b_1.Stands,.bool b_1.Leads,lst cI b_1.Got,lst cI b_1.Log]) hS3 rfl rfl rfl (fun b5 h6 hS7=>?_)
 simp only [qe,qa,B0,reduceIte,reduceEqDiff]
 refine jd (Sep.m1 hS7) hW (by simp only [B0,reduceIte,reduceEqDiff]) (fun h9 hS10=>?_)
 refine jd hS10 hW (by simp only [B0,reduceIte,reduceEqDiff]) (fun h11 hS12=>?_)
 simp only [jc,qv0,qd,qc,qn,qb,Nat.reduceAdd,Nat.zero_add,Nat.add_zero,qu,qj,B0,reduceIte,reduceEqDiff]
 refine qh (v := .int .i64 a_0.Term) rfl ?_
 simp only [qn,qb,Nat.reduceAdd,Nat.zero_add,Nat.add_zero,qu,qj,B0,reduceIte,reduceEqDiff]
 refine qh (v := .int .i64 b_1.Term) rfl ?_
 simp only [qm,qb,yq,qa,qr,B0,reduceIte,reduceEqDiff]
 refine qq (t:=(decide (a_0.Term≠b_1.Term))) (fun hc13=>?_) (fun hc13=>?_)
 ·rw [iteT hc13] at hF
  simp only [qd,qc,qe,qa,qs,B0,reduceIte,reduceEqDiff]
  have he:=qf hF
  subst he
  simp only [qw,B0,reduceIte,reduceEqDiff]
  exact rfl
 rw [iteF hc13] at hF
 simp only [qt,qu5,qd,qc,qn,qb,Nat.reduceAdd,Nat.zero_add,Nat.add_zero,qu,qj,B0,reduceIte,reduceEqDiff]
 refine qh (v := .int .i64 a_0.Voted) rfl ?_
 simp only [qn,qb,Nat.reduceAdd,Nat.zero_add,Nat.add_zero,qu,qj,B0,reduceIte,reduceEqDiff]
 refine qh (v := .int .i64 b_1.Voted) rfl ?_
 simp only [qm,qb,yq,qa,qr,B0,reduceIte,reduceEqDiff]
 refine qq (t:=(decide (a_0.Voted≠b_1.Voted))) (fun hc14=>?_) (fun hc14=>?_)
 ·rw [iteT hc14] at hF
  simp only [qd,qc,qe,qa,qs,B0,reduceIte,reduceEqDiff]
  have he:=qf hF
  subst he
  simp only [qw,B0,reduceIte,reduceEqDiff]
  exact rfl
 rw [iteF hc14] at hF
 simp only [qt,qvw,qd,qc,qn,qb,Nat.reduceAdd,Nat.zero_add,Nat.add_zero,qu,qj,B0,reduceIte,reduceEqDiff]
 refine qh (v := .bool a_0.Stands) rfl ?_
 simp only [qn,qb,Nat.reduceAdd,Nat.zero_add,Nat.add_zero,qu,qj,B0,reduceIte,reduceEqDiff]
 refine qh (v := .bool b_1.Stands) rfl ?_
 simp only [qa1,qb,qbz,qa,qr,B0,reduceIte,reduceEqDiff]
 refine qq (t:=(!(a_0.Stands == b_1.Stands))) (fun hc15=>?_) (fun hc15=>?_)
 ·rw [iteT hc15] at hF
  simp only [qd,qc,qe,qa,qs,B0,reduceIte,reduceEqDiff]
  have he:=qf hF
  subst he
  simp only [qw,B0,reduceIte,reduceEqDiff]
  exact rfl
 rw [iteF hc15] at hF
 simp only [qt,qr7,qd,qc,qn,qb,Nat.reduceAdd,Nat.zero_add,Nat.add_zero,qu,qj,B0,reduceIte,reduceEqDiff]
 refine qh (v := .bool a_0.Leads) rfl ?_
 simp only [qn,qb,Nat.reduceAdd,Nat.zero_add,Nat.add_zero,qu,qj,B0,reduceIte,reduceEqDiff]
 refine qh (v := .bool b_1.Leads) rfl ?_
 simp only [qa1,qb,qbz,qa,qr,B0,reduceIte,reduceEqDiff]
 refine qq (t:=(!(a_0.Leads == b_1.Leads))) (fun hc16=>?_) (fun hc16=>?_)
 ·rw [iteT hc16] at hF
  simp only [qd,qc,qe,qa,qs,B0,reduceIte,reduceEqDiff]
  have he:=qf hF
  subst he
  simp only [qw,B0,reduceIte,reduceEqDiff]
  exact rfl
 rw [iteF hc16] at hF
 simp only [qt,qvl,qd,qc,qn,qb,Nat.reduceAdd,Nat.zero_add,Nat.add_zero,qu,qj,B0,reduceIte,reduceEqDiff]
 refine qh (v:=lst cI a_0.Got) rfl ?_
 simp only [qn,qb,Nat.reduceAdd,Nat.zero_add,Nat.add_zero,qu,qj,B0,reduceIte,reduceEqDiff]
 refine qh (v:=lst cI b_1.Got) rfl ?_
 obtain ⟨v17,hx18,hF19⟩:=qi hF
 simp only [zb,B0,reduceIte,reduceEqDiff]
 refine jg rfl (qk zx (qk zx zd)) (qf0 (fun b hb=>decide_eq_true hb) k a_0.Got b_1.Got v17 hx18) ?_
 simp only [js,qb,kt,qa,qr,B0,reduceIte,reduceEqDiff]
 refine qq (t:=(!v17)) (fun hc20=>?_) (fun hc20=>?_)
 ·rw [iteT hc20] at hF19
  simp only [qd,qc,qe,qa,qs,B0,reduceIte,reduceEqDiff]
  have he:=qf hF19
  subst he
  simp only [qw,B0,reduceIte,reduceEqDiff]
  exact rfl
 rw [iteF hc20] at hF19
 simp only [qt,qu6,qd,qc,qn,qb,Nat.reduceAdd,Nat.zero_add,Nat.add_zero,qu,qj,B0,reduceIte,reduceEqDiff]
 refine qh (v:=lst cI a_0.Log) rfl ?_
 simp only [qn,qb,Nat.reduceAdd,Nat.zero_add,Nat.add_zero,qu,qj,B0,reduceIte,reduceEqDiff]
 refine qh (v:=lst cI b_1.Log) rfl ?_
 obtain ⟨v21,hx22,hF23⟩:=qi hF19
 simp only [zb,B0,reduceIte,reduceEqDiff]
 refine jg rfl (qk zx (qk zx zd)) (qf0 (fun b hb=>decide_eq_true hb) k a_0.Log b_1.Log v21 hx22) ?_
 simp only [js,qb,kt,qa,qr,B0,reduceIte,reduceEqDiff]
 refine qq (t:=(!v21)) (fun hc24=>?_) (fun hc24=>?_)
 ·rw [iteT hc24] at hF23
  simp only [qd,qc,qe,qa,qs,B0,reduceIte,reduceEqDiff]
  have he:=qf hF23
  subst he
  simp only [qw,B0,reduceIte,reduceEqDiff]
  exact rfl
 rw [iteF hc24] at hF23
 simp only [qt,qd,qc,qe,qa,qs,B0,reduceIte,reduceEqDiff]
 have he:=qf hF23
 subst he
 simp only [qw,B0,reduceIte,reduceEqDiff]
 exact rfl
theorem qki {W:Nat→Bool}{h:Heap} (hW:∀ b,
  (geL h.length) b→W b=true) (k:Nat) (a_0:List Server) (b_1:List Server) (r:Bool) (hF:qb0 k a_0 b_1=some r) : Ret E W 72 [lst Server.cells a_0,
  lst Server.cells b_1] h (fun v h'=>cut h.length h' E.sz false 9 v=some (.bool r)):=by
 refine Ret.of (fn:=x72) rfl (Run.of ?_)
 unfold qb0 at hF
 have zf0:qy [lst Server.cells a_0,lst Server.cells b_1] 0=lst Server.cells a_0:=rfl
 have zf1:qy [lst Server.cells a_0,lst Server.cells b_1] 1=lst Server.cells b_1:=rfl
 generalize qy [lst Server.cells a_0,lst Server.cells b_1]=fr0 at zf0 zf1 ⊢
 have hS:Sep h (geL h.length) []:=Sep.nil h
 simp only [x72,qd,qc,qe,qa,qzs,zf0,zj,qb,zr,zf1,qm,yq,qr,B0,reduceIte,reduceEqDiff]
 refine qq (t:=(decide ((List.length a_0:Int)≠(List.length b_1:Int)))) (fun hc1=>?_) (fun hc1=>?_)
 ·rw [iteT hc1] at hF
  simp only [qd,qc,qe,qa,qs,B0,reduceIte,reduceEqDiff]
  have he:=qf hF
  subst he
  simp only [qw,B0,reduceIte,reduceEqDiff]
  exact rfl
 rw [iteF hc1] at hF
 simp only [qt,q3e,qd,qc,qe,qa,B0,reduceIte,reduceEqDiff]
 obtain ⟨oc6,hX8,hk9⟩:=jm hF
 simp only [q4d]
 refine yb (σ:=Int) (fun s41=>uo k a_0 b_1 s41)
   (fun s fr' h'=>fr' 0=lst Server.cells a_0∧fr' 1=lst Server.cells b_1∧fr' 5 = .int .i64 s∧Sep h' (geL h.length) ([])) hX8 ⟨zf0,zf1,rfl,
   hS⟩ (fun _ _ _ h=>h) ?_ ?_
 ·rintro s3 fr18 h19 ⟨f21,f22,f23,hS20⟩ oc7 hF10 hr11 Q12 hN13 hK14 hR15 hE16
  unfold uo at hF10
  simp only [q38,qd,qc,f23,qe,f21,zj,qb,zr,qm,kr,qa,qr,B0,reduceIte,reduceEqDiff]
  refine qq (t:=(decide (s3<(List.length a_0:Int)))) (fun hc25=>?_) (fun hc25=>?_)
  ·rw [iteT hc25] at hF10
   obtain ⟨x26,hx27,hF28⟩:=qi hF10
   simp only [qt,q02,qd,jq,q09,j5,f21,ja,qp,f23,qbq,B0,reduceIte,reduceEqDiff]
   refine q9 (v := .ref (Server.cells x26) 0) (je hx27 rfl) ?_
   simp only [z8,B0,reduceIte,reduceEqDiff]
   refine q9 (v := .agg [.int .i64 x26.Term,.int .i64 x26.Voted,.bool x26.Stands,.bool x26.Leads,lst cI x26.Got,lst cI x26.Log]) rfl ?_
   obtain ⟨x29,hx30,hF31⟩:=qi hF28
   simp only [f22,ja,qp,f23,qbq,B0,reduceIte,reduceEqDiff]
   refine q9 (v := .ref (Server.cells x29) 0) (je hx30 rfl) ?_
   simp only [z8,B0,reduceIte,reduceEqDiff]
   refine q9 (v := .agg [.int .i64 x29.Term,.int .i64 x29.Voted,.bool x29.Stands,.bool x29.Leads,lst cI x29.Got,lst cI x29.Log]) rfl ?_
   obtain ⟨v32,hx33,hF34⟩:=qi hF31
   simp only [wa,B0,reduceIte,reduceEqDiff]
   refine qds rfl (qk (kq (qk za (qk za (qk u9 (qk u9 (qk zx (qk zx zd))))))) (qk (kq
     (qk za (qk za (qk u9 (qk u9 (qk zx (qk zx zd))))))) zd)) (qk7
     (fun b hb=>decide_eq_true hb) k x26 x29 v32 hx33) ?_
   simp only [qhd,qp,kt,zk,qr,B0,reduceIte,reduceEqDiff]
   refine qq (t:=(!v32)) (fun hc35=>?_) (fun hc35=>?_)
   ·rw [iteT hc35] at hF34
    simp only [qd,qc,qe,qa,qs,B0,reduceIte,reduceEqDiff]
    have e36:=qf hF34
    subst e36
    have ho37:=hr11 _ rfl
    have hk38:=hk9
    rw [ho37] at hk38
    dsimp only [jnO] at hk38
    apply hR15
    have he:=qf hk38
    subst he
    simp only [qw,B0,reduceIte,reduceEqDiff]
    exact rfl
   rw [iteF hc35] at hF34
   simp only [qt,kh,qc,f23,qe,qm,qb,j8,qa,ql,B0,reduceIte,reduceEqDiff]
   have e39:=qf hF34
   exact hN13 _ _ _ e39.symm ⟨f21,f22,rfl,hS20⟩
  rw [iteF hc25] at hF10
  simp only [kg,ka,ky,B0,reduceIte,reduceEqDiff]
  have e40:=qf hF10
  exact hK14 _ _ _ e40.symm ⟨f21,f22,f23,hS20⟩
 rintro s42 fr43 h44 rfl ⟨f46,f47,f48,hS45⟩
 dsimp only [jnO] at hk9
 unfold qf7 at hk9
 simp only [qd,qc,qe,qa,qs,B0,reduceIte,reduceEqDiff]
 have he:=qf hk9
 subst he
 simp only [qw,B0,reduceIte,reduceEqDiff]
 exact rfl
theorem qlg {W:Nat→Bool}{h:Heap} (hW:∀ b,
  (geL h.length) b→W b=true) (a_0:Letter) (b_1:Letter) (r:Bool) (hF:qch a_0 b_1=some r) : Ret E W 106 [.agg [.int .i64 a_0.To,.int .i64 a_0.From,
  .int .i64 a_0.Term,.bool a_0.Asks,.int .i64 a_0.Last,.int .i64 a_0.Long,.bool a_0.Grant],.agg [.int .i64 b_1.To,.int .i64 b_1.From,.int .i64 b_1.Term,.bool b_1.Asks,
  .int .i64 b_1.Last,.int .i64 b_1.Long,.bool b_1.Grant]] h (fun v h'=>cut h.length h' E.sz false 9 v=some (.bool r)):=by
 refine Ret.of (fn:=qqd) rfl (Run.of ?_)
 unfold qch at hF
 have zf0:qy [.agg [.int .i64 a_0.To,.int .i64 a_0.From,.int .i64 a_0.Term,.bool a_0.Asks,.int .i64 a_0.Last,.int .i64 a_0.Long,.bool a_0.Grant],
   .agg [.int .i64 b_1.To,.int .i64 b_1.From,.int .i64 b_1.Term,.bool b_1.Asks,.int .i64 b_1.Last,.int .i64 b_1.Long,.bool b_1.Grant]] 0 = .agg [.int .i64 a_0.To,
   .int .i64 a_0.From,.int .i64 a_0.Term,.bool a_0.Asks,.int .i64 a_0.Last,.int .i64 a_0.Long,.bool a_0.Grant]:=rfl
 have zf1:qy [.agg [.int .i64 a_0.To,.int .i64 a_0.From,.int .i64 a_0.Term,.bool a_0.Asks,.int .i64 a_0.Last,.int .i64 a_0.Long,.bool a_0.Grant],
   .agg [.int .i64 b_1.To,.int .i64 b_1.From,.int .i64 b_1.Term,.bool b_1.Asks,.int .i64 b_1.Last,.int .i64 b_1.Long,.bool b_1.Grant]] 1 = .agg [.int .i64 b_1.To,
   .int .i64 b_1.From,.int .i64 b_1.Term,.bool b_1.Asks,.int .i64 b_1.Last,.int .i64 b_1.Long,.bool b_1.Grant]:=rfl
 generalize qy [.agg [.int .i64 a_0.To,.int .i64 a_0.From,.int .i64 a_0.Term,.bool a_0.Asks,.int .i64 a_0.Last,.int .i64 a_0.Long,.bool a_0.Grant],
   .agg [.int .i64 b_1.To,.int .i64 b_1.From,.int .i64 b_1.Term,.bool b_1.Asks,.int .i64 b_1.Last,.int .i64 b_1.Long,.bool b_1.Grant]]=fr0 at zf0 zf1 ⊢
 have hS:Sep h (geL h.length) []:=Sep.nil h
 simp only [qqd,qd,qc,kx,zf0,B0,reduceIte,reduceEqDiff]
 refine ju (cs:=[.int .i64 a_0.To,.int .i64 a_0.From,.int .i64 a_0.Term,.bool a_0.Asks,.int .i64 a_0.Last,.int .i64 a_0.Long,
   .bool a_0.Grant]) hS rfl rfl rfl (fun b1 h2 hS3=>?_)
 simp only [kx,zf1,B0,reduceIte,reduceEqDiff]
 refine ju (cs:=[.int .i64 b_1.To,.int .i64 b_1.From,.int .i64 b_1.Term,.bool b_1.Asks,.int .i64 b_1.Last,.int .i64 b_1.Long,
   .bool b_1.Grant]) hS3 rfl rfl rfl (fun b5 h6 hS7=>?_)
 simp only [qe,qa,B0,reduceIte,reduceEqDiff]
 refine jd (Sep.m1 hS7) hW (by simp only [B0,reduceIte,reduceEqDiff]) (fun h9 hS10=>?_)
 refine jd hS10 hW (by simp only [B0,reduceIte,reduceEqDiff]) (fun h11 hS12=>?_)
 simp only [jc,qsq,qd,qc,qn,qb,Nat.reduceAdd,Nat.zero_add,Nat.add_zero,qu,qj,B0,reduceIte,reduceEqDiff]
 refine qh (v := .int .i64 a_0.To) rfl ?_
 simp only [qn,qb,Nat.reduceAdd,Nat.zero_add,Nat.add_zero,qu,qj,B0,reduceIte,reduceEqDiff]
 refine qh (v := .int .i64 b_1.To) rfl ?_
 simp only [qm,qb,yq,qa,qr,B0,reduceIte,reduceEqDiff]
 refine qq (t:=(decide (a_0.To≠b_1.To))) (fun hc13=>?_) (fun hc13=>?_)
 ·rw [iteT hc13] at hF
  simp only [qd,qc,qe,qa,qs,B0,reduceIte,reduceEqDiff]
  have he:=qf hF
  subst he
  simp only [qw,B0,reduceIte,reduceEqDiff]
  exact rfl
 rw [iteF hc13] at hF
 simp only [qt,qre,qd,qc,qn,qb,Nat.reduceAdd,Nat.zero_add,Nat.add_zero,qu,qj,B0,reduceIte,reduceEqDiff]
 refine qh (v := .int .i64 a_0.From) rfl ?_
 simp only [qn,qb,Nat.reduceAdd,Nat.zero_add,Nat.add_zero,qu,qj,B0,reduceIte,reduceEqDiff]
 refine qh (v := .int .i64 b_1.From) rfl ?_
 simp only [qm,qb,yq,qa,qr,B0,reduceIte,reduceEqDiff]
 refine qq (t:=(decide (a_0.From≠b_1.From))) (fun hc14=>?_) (fun hc14=>?_)
 ·rw [iteT hc14] at hF
  simp only [qd,qc,qe,qa,qs,B0,reduceIte,reduceEqDiff]
  have he:=qf hF
  subst he
  simp only [qw,B0,reduceIte,reduceEqDiff]
  exact rfl
 rw [iteF hc14] at hF
 simp only [qt,qsb,qd,qc,qn,qb,Nat.reduceAdd,Nat.zero_add,Nat.add_zero,qu,qj,B0,reduceIte,reduceEqDiff]
 refine qh (v := .int .i64 a_0.Term) rfl ?_
 simp only [qn,qb,Nat.reduceAdd,Nat.zero_add,Nat.add_zero,qu,qj,B0,reduceIte,reduceEqDiff]
 refine qh (v := .int .i64 b_1.Term) rfl ?_
 simp only [qm,qb,yq,qa,qr,B0,reduceIte,reduceEqDiff]
 refine qq (t:=(decide (a_0.Term≠b_1.Term))) (fun hc15=>?_) (fun hc15=>?_)
 ·rw [iteT hc15] at hF
  simp only [qd,qc,qe,qa,qs,B0,reduceIte,reduceEqDiff]
  have he:=qf hF
  subst he
  simp only [qw,B0,reduceIte,reduceEqDiff]
  exact rfl
 rw [iteF hc15] at hF
 simp only [qt,qwd,qd,qc,qn,qb,Nat.reduceAdd,Nat.zero_add,Nat.add_zero,qu,qj,B0,reduceIte,reduceEqDiff]
 refine qh (v := .bool a_0.Asks) rfl ?_
 simp only [qn,qb,Nat.reduceAdd,Nat.zero_add,Nat.add_zero,qu,qj,B0,reduceIte,reduceEqDiff]
 refine qh (v := .bool b_1.Asks) rfl ?_
 simp only [qa1,qb,qbz,qa,qr,B0,reduceIte,reduceEqDiff]
 refine qq (t:=(!(a_0.Asks == b_1.Asks))) (fun hc16=>?_) (fun hc16=>?_)
 ·rw [iteT hc16] at hF
  simp only [qd,qc,qe,qa,qs,B0,reduceIte,reduceEqDiff]
  have he:=qf hF
  subst he
  simp only [qw,B0,reduceIte,reduceEqDiff]
  exact rfl
 rw [iteF hc16] at hF
 simp only [qt,qwk,qd,qc,qn,qb,Nat.reduceAdd,Nat.zero_add,Nat.add_zero,qu,qj,B0,reduceIte,reduceEqDiff]
 refine qh (v := .int .i64 a_0.Last) rfl ?_
 simp only [qn,qb,Nat.reduceAdd,Nat.zero_add,Nat.add_zero,qu,qj,B0,reduceIte,reduceEqDiff]
 refine qh (v := .int .i64 b_1.Last) rfl ?_
 simp only [qm,qb,yq,qa,qr,B0,reduceIte,reduceEqDiff]
 refine qq (t:=(decide (a_0.Last≠b_1.Last))) (fun hc17=>?_) (fun hc17=>?_)
 ·rw [iteT hc17] at hF
  simp only [qd,qc,qe,qa,qs,B0,reduceIte,reduceEqDiff]
  have he:=qf hF
  subst he
  simp only [qw,B0,reduceIte,reduceEqDiff]
  exact rfl
 rw [iteF hc17] at hF
 simp only [qt,qv2,qd,qc,qn,qb,Nat.reduceAdd,Nat.zero_add,Nat.add_zero,qu,qj,B0,reduceIte,reduceEqDiff]
 refine qh (v := .int .i64 a_0.Long) rfl ?_
 simp only [qn,qb,Nat.reduceAdd,Nat.zero_add,Nat.add_zero,qu,qj,B0,reduceIte,reduceEqDiff]
 refine qh (v := .int .i64 b_1.Long) rfl ?_
 simp only [qm,qb,yq,qa,qr,B0,reduceIte,reduceEqDiff]
 refine qq (t:=(decide (a_0.Long≠b_1.Long))) (fun hc18=>?_) (fun hc18=>?_)
 ·rw [iteT hc18] at hF
  simp only [qd,qc,qe,qa,qs,B0,reduceIte,reduceEqDiff]
  have he:=qf hF
  subst he
  simp only [qw,B0,reduceIte,reduceEqDiff]
  exact rfl
 rw [iteF hc18] at hF
 simp only [qt,qu1,qd,qc,qn,qb,Nat.reduceAdd,Nat.zero_add,Nat.add_zero,qu,qj,B0,reduceIte,reduceEqDiff]
 refine qh (v := .bool a_0.Grant) rfl ?_
 simp only [qn,qb,Nat.reduceAdd,Nat.zero_add,Nat.add_zero,qu,qj,B0,reduceIte,reduceEqDiff]
 refine qh (v := .bool b_1.Grant) rfl ?_
 simp only [qa1,qb,qbz,qa,qr,B0,reduceIte,reduceEqDiff]
 refine qq (t:=(!(a_0.Grant == b_1.Grant))) (fun hc19=>?_) (fun hc19=>?_)
 ·rw [iteT hc19] at hF
  simp only [qd,qc,qe,qa,qs,B0,reduceIte,reduceEqDiff]
  have he:=qf hF
  subst he
  simp only [qw,B0,reduceIte,reduceEqDiff]
  exact rfl
 rw [iteF hc19] at hF
 simp only [qt,qd,qc,qe,qa,qs,B0,reduceIte,reduceEqDiff]
 have he:=qf hF
 subst he
 simp only [qw,B0,reduceIte,reduceEqDiff]
 exact rfl
theorem qkg {W:Nat→Bool}{h:Heap} (hW:∀ b,
  (geL h.length) b→W b=true) (k:Nat) (a_0:List Letter) (b_1:List Letter) (r:Bool) (hF:qbx k a_0 b_1=some r) : Ret E W 73 [lst Letter.cells a_0,
  lst Letter.cells b_1] h (fun v h'=>cut h.length h' E.sz false 9 v=some (.bool r)):=by
 refine Ret.of (fn:=x73) rfl (Run.of ?_)
 unfold qbx at hF
 have zf0:qy [lst Letter.cells a_0,lst Letter.cells b_1] 0=lst Letter.cells a_0:=rfl
 have zf1:qy [lst Letter.cells a_0,lst Letter.cells b_1] 1=lst Letter.cells b_1:=rfl
 generalize qy [lst Letter.cells a_0,lst Letter.cells b_1]=fr0 at zf0 zf1 ⊢
 have hS:Sep h (geL h.length) []:=Sep.nil h
 simp only [x73,qd,qc,qe,qa,q7y,zf0,zj,qb,zr,zf1,qm,yq,qr,B0,reduceIte,reduceEqDiff]
 refine qq (t:=(decide ((List.length a_0:Int)≠(List.length b_1:Int)))) (fun hc1=>?_) (fun hc1=>?_)
 ·rw [iteT hc1] at hF
  simp only [qd,qc,qe,qa,qs,B0,reduceIte,reduceEqDiff]
  have he:=qf hF
  subst he
  simp only [qw,B0,reduceIte,reduceEqDiff]
  exact rfl
 rw [iteF hc1] at hF
 simp only [qt,q0v,qd,qc,qe,qa,B0,reduceIte,reduceEqDiff]
 obtain ⟨oc6,hX8,hk9⟩:=jm hF
 simp only [q0j]
 refine yb (σ:=Int) (fun s41=>uq a_0 b_1 s41) (fun s fr' h'=>fr' 0=lst Letter.cells a_0∧fr' 1=lst Letter.cells b_1∧fr' 5 = .int .i64 s∧Sep h'
   (geL h.length) ([])) hX8 ⟨zf0,zf1,rfl,hS⟩ (fun _ _ _ h=>h) ?_ ?_
 ·rintro s3 fr18 h19 ⟨f21,f22,f23,hS20⟩ oc7 hF10 hr11 Q12 hN13 hK14 hR15 hE16
  unfold uq at hF10
  simp only [q4e,qd,qc,f23,qe,f21,zj,qb,zr,qm,kr,qa,qr,B0,reduceIte,reduceEqDiff]
  refine qq (t:=(decide (s3<(List.length a_0:Int)))) (fun hc25=>?_) (fun hc25=>?_)
  ·rw [iteT hc25] at hF10
   obtain ⟨x26,hx27,hF28⟩:=qi hF10
   simp only [qt,q0h,qd,jq,q4x,j5,f21,ja,qp,f23,qbq,B0,reduceIte,reduceEqDiff]
   refine q9 (v := .ref (Letter.cells x26) 0) (je hx27 rfl) ?_
   simp only [z8,B0,reduceIte,reduceEqDiff]
   refine q9 (v := .agg [.int .i64 x26.To,.int .i64 x26.From,.int .i64 x26.Term,.bool x26.Asks,.int .i64 x26.Last,.int .i64 x26.Long,.bool x26.Grant]) rfl ?_
   obtain ⟨x29,hx30,hF31⟩:=qi hF28
   simp only [f22,ja,qp,f23,qbq,B0,reduceIte,reduceEqDiff]
   refine q9 (v := .ref (Letter.cells x29) 0) (je hx30 rfl) ?_
   simp only [z8,B0,reduceIte,reduceEqDiff]
   refine q9 (v := .agg [.int .i64 x29.To,.int .i64 x29.From,.int .i64 x29.Term,.bool x29.Asks,.int .i64 x29.Last,.int .i64 x29.Long,.bool x29.Grant]) rfl ?_
   obtain ⟨v32,hx33,hF34⟩:=qi hF31
   simp only [wa,B0,reduceIte,reduceEqDiff]
   refine qds rfl (qk (kq (qk za (qk za (qk za (qk u9 (qk za (qk za (qk u9 zd)))))))) (qk
     (kq (qk za (qk za (qk za (qk u9 (qk za (qk za (qk u9 zd)))))))) zd)) (qlg
     (fun b hb=>decide_eq_true hb) x26 x29 v32 hx33) ?_
   simp only [qhd,qp,kt,zk,qr,B0,reduceIte,reduceEqDiff]
   refine qq (t:=(!v32)) (fun hc35=>?_) (fun hc35=>?_)
   ·rw [iteT hc35] at hF34
    simp only [qd,qc,qe,qa,qs,B0,reduceIte,reduceEqDiff]
    have e36:=qf hF34
    subst e36
    have ho37:=hr11 _ rfl
    have hk38:=hk9
    rw [ho37] at hk38
    dsimp only [jnO] at hk38
    apply hR15
    have he:=qf hk38
    subst he
    simp only [qw,B0,reduceIte,reduceEqDiff]
    exact rfl
   rw [iteF hc35] at hF34
   simp only [qt,kh,qc,f23,qe,qm,qb,j8,qa,ql,B0,reduceIte,reduceEqDiff]
   have e39:=qf hF34
   exact hN13 _ _ _ e39.symm ⟨f21,f22,rfl,hS20⟩
  rw [iteF hc25] at hF10
  simp only [kg,ka,ky,B0,reduceIte,reduceEqDiff]
  have e40:=qf hF10
  exact hK14 _ _ _ e40.symm ⟨f21,f22,f23,hS20⟩
 rintro s42 fr43 h44 rfl ⟨f46,f47,f48,hS45⟩
 dsimp only [jnO] at hk9
 unfold qf3 at hk9
 simp only [qd,qc,qe,qa,qs,B0,reduceIte,reduceEqDiff]
 have he:=qf hk9
 subst he
 simp only [qw,B0,reduceIte,reduceEqDiff]
 exact rfl
theorem qm0 {W:Nat→Bool}{h:Heap} (hW:∀ b,
  (geL h.length) b→W b=true) (a_0:Vote) (b_1:Vote) (r:Bool) (hF:qdt a_0 b_1=some r) : Ret E W 107 [.agg [.int .i64 a_0.Term,.int .i64 a_0.Leader],
  .agg [.int .i64 b_1.Term,.int .i64 b_1.Leader]] h (fun v h'=>cut h.length h' E.sz false 9 v=some (.bool r)):=by
 refine Ret.of (fn:=qqf) rfl (Run.of ?_)
 unfold qdt at hF
 have zf0:qy [.agg [.int .i64 a_0.Term,.int .i64 a_0.Leader],.agg [.int .i64 b_1.Term,.int .i64 b_1.Leader]] 0 = .agg [.int .i64 a_0.Term,.int .i64 a_0.Leader]:=rfl
 have zf1:qy [.agg [.int .i64 a_0.Term,.int .i64 a_0.Leader],.agg [.int .i64 b_1.Term,.int .i64 b_1.Leader]] 1 = .agg [.int .i64 b_1.Term,.int .i64 b_1.Leader]:=rfl
 generalize qy [.agg [.int .i64 a_0.Term,.int .i64 a_0.Leader],.agg [.int .i64 b_1.Term,.int .i64 b_1.Leader]]=fr0 at zf0 zf1 ⊢
 have hS:Sep h (geL h.length) []:=Sep.nil h
 simp only [qqf,qd,qc,kx,zf0,B0,reduceIte,reduceEqDiff]
 refine ju (cs:=[.int .i64 a_0.Term,.int .i64 a_0.Leader]) hS rfl rfl rfl (fun b1 h2 hS3=>?_)
 simp only [kx,zf1,B0,reduceIte,reduceEqDiff]
 refine ju (cs:=[.int .i64 b_1.Term,.int .i64 b_1.Leader]) hS3 rfl rfl rfl (fun b5 h6 hS7=>?_)
 simp only [qe,qa,B0,reduceIte,reduceEqDiff]
 refine jd (Sep.m1 hS7) hW (by simp only [B0,reduceIte,reduceEqDiff]) (fun h9 hS10=>?_)
 refine jd hS10 hW (by simp only [B0,reduceIte,reduceEqDiff]) (fun h11 hS12=>?_)
 simp only [jc,qwj,qd,qc,qn,qb,Nat.reduceAdd,Nat.zero_add,Nat.add_zero,qu,qj,B0,reduceIte,reduceEqDiff]
 refine qh (v := .int .i64 a_0.Term) rfl ?_
 simp only [qn,qb,Nat.reduceAdd,Nat.zero_add,Nat.add_zero,qu,qj,B0,reduceIte,reduceEqDiff]
 refine qh (v := .int .i64 b_1.Term) rfl ?_
 simp only [qm,qb,yq,qa,qr,B0,reduceIte,reduceEqDiff]
 refine qq (t:=(decide (a_0.Term≠b_1.Term))) (fun hc13=>?_) (fun hc13=>?_)
 ·rw [iteT hc13] at hF
  simp only [qd,qc,qe,qa,qs,B0,reduceIte,reduceEqDiff]
  have he:=qf hF
  subst he
  simp only [qw,B0,reduceIte,reduceEqDiff]
  exact rfl
 rw [iteF hc13] at hF
 simp only [qt,qtf,qd,qc,qn,qb,Nat.reduceAdd,Nat.zero_add,Nat.add_zero,qu,qj,B0,reduceIte,reduceEqDiff]
 refine qh (v := .int .i64 a_0.Leader) rfl ?_
 simp only [qn,qb,Nat.reduceAdd,Nat.zero_add,Nat.add_zero,qu,qj,B0,reduceIte,reduceEqDiff]
 refine qh (v := .int .i64 b_1.Leader) rfl ?_
 simp only [qm,qb,yq,qa,qr,B0,reduceIte,reduceEqDiff]
 refine qq (t:=(decide (a_0.Leader≠b_1.Leader))) (fun hc14=>?_) (fun hc14=>?_)
 ·rw [iteT hc14] at hF
  simp only [qd,qc,qe,qa,qs,B0,reduceIte,reduceEqDiff]
  have he:=qf hF
  subst he
  simp only [qw,B0,reduceIte,reduceEqDiff]
  exact rfl
 rw [iteF hc14] at hF
 simp only [qt,qd,qc,qe,qa,qs,B0,reduceIte,reduceEqDiff]
 have he:=qf hF
 subst he
 simp only [qw,B0,reduceIte,reduceEqDiff]
 exact rfl
theorem qlt {W:Nat→Bool}{h:Heap} (hW:∀ b,
  (geL h.length) b→W b=true) (k:Nat) (a_0:List Vote) (b_1:List Vote) (r:Bool) (hF:qcr k a_0 b_1=some r) : Ret E W 74 [lst Vote.cells a_0,
  lst Vote.cells b_1] h (fun v h'=>cut h.length h' E.sz false 9 v=some (.bool r)):=by
 refine Ret.of (fn:=x74) rfl (Run.of ?_)
 unfold qcr at hF
 have zf0:qy [lst Vote.cells a_0,lst Vote.cells b_1] 0=lst Vote.cells a_0:=rfl
 have zf1:qy [lst Vote.cells a_0,lst Vote.cells b_1] 1=lst Vote.cells b_1:=rfl
 generalize qy [lst Vote.cells a_0,lst Vote.cells b_1]=fr0 at zf0 zf1 ⊢
 have hS:Sep h (geL h.length) []:=Sep.nil h
 simp only [x74,qd,qc,qe,qa,q3n,zf0,zj,qb,zr,zf1,qm,yq,qr,B0,reduceIte,reduceEqDiff]
 refine qq (t:=(decide ((List.length a_0:Int)≠(List.length b_1:Int)))) (fun hc1=>?_) (fun hc1=>?_)
 ·rw [iteT hc1] at hF
  simp only [qd,qc,qe,qa,qs,B0,reduceIte,reduceEqDiff]
  have he:=qf hF
  subst he
  simp only [qw,B0,reduceIte,reduceEqDiff]
  exact rfl
 rw [iteF hc1] at hF
 simp only [qt,q1g,qd,qc,qe,qa,B0,reduceIte,reduceEqDiff]
 obtain ⟨oc6,hX8,hk9⟩:=jm hF
 simp only [q6a]
 refine yb (σ:=Int) (fun s41=>qbc a_0 b_1 s41) (fun s fr' h'=>fr' 0=lst Vote.cells a_0∧fr' 1=lst Vote.cells b_1∧fr' 5 = .int .i64 s∧Sep h'
   (geL h.length) ([])) hX8 ⟨zf0,zf1,rfl,hS⟩ (fun _ _ _ h=>h) ?_ ?_
 ·rintro s3 fr18 h19 ⟨f21,f22,f23,hS20⟩ oc7 hF10 hr11 Q12 hN13 hK14 hR15 hE16
  unfold qbc at hF10
  simp only [q1m,qd,qc,f23,qe,f21,zj,qb,zr,qm,kr,qa,qr,B0,reduceIte,reduceEqDiff]
  refine qq (t:=(decide (s3<(List.length a_0:Int)))) (fun hc25=>?_) (fun hc25=>?_)
  ·rw [iteT hc25] at hF10
   obtain ⟨x26,hx27,hF28⟩:=qi hF10
   simp only [qt,q0i,qd,jq,q56,j5,f21,ja,qp,f23,qbq,B0,reduceIte,reduceEqDiff]
   refine q9 (v := .ref (Vote.cells x26) 0) (je hx27 rfl) ?_
   simp only [z8,B0,reduceIte,reduceEqDiff]
   refine q9 (v := .agg [.int .i64 x26.Term,.int .i64 x26.Leader]) rfl ?_
   obtain ⟨x29,hx30,hF31⟩:=qi hF28
   simp only [f22,ja,qp,f23,qbq,B0,reduceIte,reduceEqDiff]
   refine q9 (v := .ref (Vote.cells x29) 0) (je hx30 rfl) ?_
   simp only [z8,B0,reduceIte,reduceEqDiff]
   refine q9 (v := .agg [.int .i64 x29.Term,.int .i64 x29.Leader]) rfl ?_
   obtain ⟨v32,hx33,hF34⟩:=qi hF31
   simp only [wa,B0,reduceIte,reduceEqDiff]
   refine qds rfl (qk (kq (qk za (qk za zd))) (qk (kq (qk za (qk za zd))) zd)) (qm0
     (fun b hb=>decide_eq_true hb) x26 x29 v32 hx33) ?_
   simp only [qhd,qp,kt,zk,qr,B0,reduceIte,reduceEqDiff]
   refine qq (t:=(!v32)) (fun hc35=>?_) (fun hc35=>?_)
   ·rw [iteT hc35] at hF34
    simp only [qd,qc,qe,qa,qs,B0,reduceIte,reduceEqDiff]
    have e36:=qf hF34
    subst e36
    have ho37:=hr11 _ rfl
    have hk38:=hk9
    rw [ho37] at hk38
    dsimp only [jnO] at hk38
    apply hR15
    have he:=qf hk38
    subst he
    simp only [qw,B0,reduceIte,reduceEqDiff]
    exact rfl
   rw [iteF hc35] at hF34
   simp only [qt,kh,qc,f23,qe,qm,qb,j8,qa,ql,B0,reduceIte,reduceEqDiff]
   have e39:=qf hF34
   exact hN13 _ _ _ e39.symm ⟨f21,f22,rfl,hS20⟩
  rw [iteF hc25] at hF10
  simp only [kg,ka,ky,B0,reduceIte,reduceEqDiff]
  have e40:=qf hF10
  exact hK14 _ _ _ e40.symm ⟨f21,f22,f23,hS20⟩
 rintro s42 fr43 h44 rfl ⟨f46,f47,f48,hS45⟩
 dsimp only [jnO] at hk9
 unfold qg0 at hk9
 simp only [qd,qc,qe,qa,qs,B0,reduceIte,reduceEqDiff]
 have he:=qf hk9
 subst he
 simp only [qw,B0,reduceIte,reduceEqDiff]
 exact rfl
end Go.Proofs.Ytpddolihbnfahaa.X
namespace Go.Proofs.Ytpddolihbnfahaa.X
open Go
open Nat (reduceEqDiff)
theorem qdp {W:Nat→Bool}{h:Heap} (hW:∀ b,
  (geL h.length) b→W b=true) (k:Nat) (a_0:Election) (b_1:Election) (r:Bool)
  (hF:w7 k a_0 b_1=some r) : Ret E W 34 [.agg [lst Server.cells a_0.Servers,lst Letter.cells a_0.Post,lst Vote.cells a_0.Led],
  .agg [lst Server.cells b_1.Servers,lst Letter.cells b_1.Post,lst Vote.cells b_1.Led]] h (fun v h'=>cut h.length h' E.sz false 9 v=some (.bool r)):=by
 refine Ret.of (fn:=x34) rfl (Run.of ?_)
 unfold w7 at hF
 have zf0:qy [.agg [lst Server.cells a_0.Servers,lst Letter.cells a_0.Post,lst Vote.cells a_0.Led],.agg [lst Server.cells b_1.Servers,lst Letter.cells b_1.Post,
   lst Vote.cells b_1.Led]] 0 = .agg [lst Server.cells a_0.Servers,lst Letter.cells a_0.Post,lst Vote.cells a_0.Led]:=rfl
 have zf1:qy [.agg [lst Server.cells a_0.Servers,lst Letter.cells a_0.Post,lst Vote.cells a_0.Led],.agg [lst Server.cells b_1.Servers,lst Letter.cells b_1.Post,
   lst Vote.cells b_1.Led]] 1 = .agg [lst Server.cells b_1.Servers,lst Letter.cells b_1.Post,lst Vote.cells b_1.Led]:=rfl
 generalize qy [.agg [lst Server.cells a_0.Servers,lst Letter.cells a_0.Post,lst Vote.cells a_0.Led],.agg [lst Server.cells b_1.Servers,lst Letter.cells b_1.Post,
   lst Vote.cells b_1.Led]]=fr0 at zf0 zf1 ⊢
 have hS:Sep h (geL h.length) []:=Sep.nil h
 simp only [x34,qd,qc,kx,zf0,B0,reduceIte,reduceEqDiff]
 refine ju (cs:=[lst Server.cells a_0.Servers,lst Letter.cells a_0.Post,lst Vote.cells a_0.Led]) hS rfl rfl rfl (fun b1 h2 hS3=>?_)
 simp only [kx,zf1,B0,reduceIte,reduceEqDiff]
 refine ju (cs:=[lst Server.cells b_1.Servers,lst Letter.cells b_1.Post,lst Vote.cells b_1.Led]) hS3 rfl rfl rfl (fun b5 h6 hS7=>?_)
 simp only [qe,qa,B0,reduceIte,reduceEqDiff]
 refine jd (Sep.m1 hS7) hW (by simp only [B0,reduceIte,reduceEqDiff]) (fun h9 hS10=>?_)
 refine jd hS10 hW (by simp only [B0,reduceIte,reduceEqDiff]) (fun h11 hS12=>?_)
 simp only [jc,qzh,qd,qc,qn,qb,Nat.reduceAdd,Nat.zero_add,Nat.add_zero,qu,qj,B0,reduceIte,reduceEqDiff]
 refine qh (v:=lst Server.cells a_0.Servers) rfl ?_
 simp only [qn,qb,Nat.reduceAdd,Nat.zero_add,Nat.add_zero,qu,qj,B0,reduceIte,reduceEqDiff]
 refine qh (v:=lst Server.cells b_1.Servers) rfl ?_
 obtain ⟨v13,hx14,hF15⟩:=qi hF
 simp only [zb,B0,reduceIte,reduceEqDiff]
 refine jg rfl (qk zx (qk zx zd)) (qki (fun b hb=>decide_eq_true hb) k a_0.Servers b_1.Servers v13 hx14) ?_
 simp only [js,qb,kt,qa,qr,B0,reduceIte,reduceEqDiff]
 refine qq (t:=(!v13)) (fun hc16=>?_) (fun hc16=>?_)
 ·rw [iteT hc16] at hF15
  simp only [qd,qc,qe,qa,qs,B0,reduceIte,reduceEqDiff]
  have he:=qf hF15
  subst he
  simp only [qw,B0,reduceIte,reduceEqDiff]
  exact rfl
 rw [iteF hc16] at hF15
 simp only [qt,q6k,qd,qc,qn,qb,Nat.reduceAdd,Nat.zero_add,Nat.add_zero,qu,qj,B0,reduceIte,reduceEqDiff]
 refine qh (v:=lst Letter.cells a_0.Post) rfl ?_
 simp only [qn,qb,Nat.reduceAdd,Nat.zero_add,Nat.add_zero,qu,qj,B0,reduceIte,reduceEqDiff]
 refine qh (v:=lst Letter.cells b_1.Post) rfl ?_
 obtain ⟨v17,hx18,hF19⟩:=qi hF15
 simp only [zb,B0,reduceIte,reduceEqDiff]
 refine jg rfl (qk zx (qk zx zd)) (qkg (fun b hb=>decide_eq_true hb) k a_0.Post b_1.Post v17 hx18) ?_
 simp only [js,qb,kt,qa,qr,B0,reduceIte,reduceEqDiff]
 refine qq (t:=(!v17)) (fun hc20=>?_) (fun hc20=>?_)
 ·rw [iteT hc20] at hF19
  simp only [qd,qc,qe,qa,qs,B0,reduceIte,reduceEqDiff]
  have he:=qf hF19
  subst he
  simp only [qw,B0,reduceIte,reduceEqDiff]
  exact rfl
 rw [iteF hc20] at hF19
 simp only [qt,q7q,qd,qc,qn,qb,Nat.reduceAdd,Nat.zero_add,Nat.add_zero,qu,qj,B0,reduceIte,reduceEqDiff]
 refine qh (v:=lst Vote.cells a_0.Led) rfl ?_
 simp only [qn,qb,Nat.reduceAdd,Nat.zero_add,Nat.add_zero,qu,qj,B0,reduceIte,reduceEqDiff]
 refine qh (v:=lst Vote.cells b_1.Led) rfl ?_
 obtain ⟨v21,hx22,hF23⟩:=qi hF19
 simp only [zb,B0,reduceIte,reduceEqDiff]
 refine jg rfl (qk zx (qk zx zd)) (qlt (fun b hb=>decide_eq_true hb) k a_0.Led b_1.Led v21 hx22) ?_
 simp only [js,qb,kt,qa,qr,B0,reduceIte,reduceEqDiff]
 refine qq (t:=(!v21)) (fun hc24=>?_) (fun hc24=>?_)
 ·rw [iteT hc24] at hF23
  simp only [qd,qc,qe,qa,qs,B0,reduceIte,reduceEqDiff]
  have he:=qf hF23
  subst he
  simp only [qw,B0,reduceIte,reduceEqDiff]
  exact rfl
 rw [iteF hc24] at hF23
 simp only [qt,qd,qc,qe,qa,qs,B0,reduceIte,reduceEqDiff]
 have he:=qf hF23
 subst he
 simp only [qw,B0,reduceIte,reduceEqDiff]
 exact rfl
theorem qfd {W:Nat→Bool}{h:Heap} (hW:∀ b,
  (geL h.length) b→W b=true) (k:Nat) (a_0:List Bool) (b_1:List Bool) (r:Bool) (hF:qak k a_0 b_1=some r) : Ret E W 35 [lst cB a_0,
  lst cB b_1] h (fun v h'=>cut h.length h' E.sz false 9 v=some (.bool r)):=by
 refine Ret.of (fn:=x35) rfl (Run.of ?_)
 unfold qak at hF
 have zf0:qy [lst cB a_0,lst cB b_1] 0=lst cB a_0:=rfl
 have zf1:qy [lst cB a_0,lst cB b_1] 1=lst cB b_1:=rfl
 generalize qy [lst cB a_0,lst cB b_1]=fr0 at zf0 zf1 ⊢
 have hS:Sep h (geL h.length) []:=Sep.nil h
 simp only [x35,qd,qc,qe,qa,q0x,zf0,zj,qb,zr,zf1,qm,yq,qr,B0,reduceIte,reduceEqDiff]
 refine qq (t:=(decide ((List.length a_0:Int)≠(List.length b_1:Int)))) (fun hc1=>?_) (fun hc1=>?_)
 ·rw [iteT hc1] at hF
  simp only [qd,qc,qe,qa,qs,B0,reduceIte,reduceEqDiff]
  have he:=qf hF
  subst he
  simp only [qw,B0,reduceIte,reduceEqDiff]
  exact rfl
 rw [iteF hc1] at hF
 simp only [qt,qz1,qd,qc,qe,qa,B0,reduceIte,reduceEqDiff]
 obtain ⟨oc6,hX8,hk9⟩:=jm hF
 simp only [q6e]
 refine yb (σ:=Int) (fun s38=>qbf a_0 b_1 s38) (fun s fr' h'=>fr' 0=lst cB a_0∧fr' 1=lst cB b_1∧fr' 5 = .int .i64 s∧Sep h' (geL h.length)
   ([])) hX8 ⟨zf0,zf1,rfl,hS⟩ (fun _ _ _ h=>h) ?_ ?_
 ·rintro s3 fr18 h19 ⟨f21,f22,f23,hS20⟩ oc7 hF10 hr11 Q12 hN13 hK14 hR15 hE16
  unfold qbf at hF10
  simp only [qz6,qd,qc,f23,qe,f21,zj,qb,zr,qm,kr,qa,qr,B0,reduceIte,reduceEqDiff]
  refine qq (t:=(decide (s3<(List.length a_0:Int)))) (fun hc25=>?_) (fun hc25=>?_)
  ·rw [iteT hc25] at hF10
   obtain ⟨x26,hx27,hF28⟩:=qi hF10
   simp only [qt,q4t,qd,jq,q23,j5,f21,ja,qp,f23,qbq,B0,reduceIte,reduceEqDiff]
   refine q9 (v := .ref (cB x26) 0) (je hx27 rfl) ?_
   simp only [z8,B0,reduceIte,reduceEqDiff]
   refine q9 (v := .bool x26) rfl ?_
   obtain ⟨x29,hx30,hF31⟩:=qi hF28
   simp only [f22,ja,qp,f23,qbq,B0,reduceIte,reduceEqDiff]
   refine q9 (v := .ref (cB x29) 0) (je hx30 rfl) ?_
   simp only [z8,B0,reduceIte,reduceEqDiff]
   refine q9 (v := .bool x29) rfl ?_
   simp only [q97,qp,qbz,zk,qr,B0,reduceIte,reduceEqDiff]
   refine qq (t:=(!(x26 == x29))) (fun hc32=>?_) (fun hc32=>?_)
   ·rw [iteT hc32] at hF31
    simp only [qd,qc,qe,qa,qs,B0,reduceIte,reduceEqDiff]
    have e33:=qf hF31
    subst e33
    have ho34:=hr11 _ rfl
    have hk35:=hk9
    rw [ho34] at hk35
    dsimp only [jnO] at hk35
    apply hR15
    have he:=qf hk35
    subst he
    simp only [qw,B0,reduceIte,reduceEqDiff]
    exact rfl
   rw [iteF hc32] at hF31
   simp only [qt,kh,qc,f23,qe,qm,qb,j8,qa,ql,B0,reduceIte,reduceEqDiff]
   have e36:=qf hF31
   exact hN13 _ _ _ e36.symm ⟨f21,f22,rfl,hS20⟩
  rw [iteF hc25] at hF10
  simp only [kg,ka,ky,B0,reduceIte,reduceEqDiff]
  have e37:=qf hF10
  exact hK14 _ _ _ e37.symm ⟨f21,f22,f23,hS20⟩
 rintro s39 fr40 h41 rfl ⟨f43,f44,f45,hS42⟩
 dsimp only [jnO] at hk9
 unfold qg4 at hk9
 simp only [qd,qc,qe,qa,qs,B0,reduceIte,reduceEqDiff]
 have he:=qf hk9
 subst he
 simp only [qw,B0,reduceIte,reduceEqDiff]
 exact rfl
theorem qll {W:Nat→Bool}{h:Heap} (hW:∀ b,
  (geL h.length) b→W b=true) (k:Nat) (a_0:List (List Int)) (b_1:List (List Int)) (r:Bool) (hF:qcq k a_0 b_1=some r) : Ret E W 36 [lst (cL cI) a_0,
  lst (cL cI) b_1] h (fun v h'=>cut h.length h' E.sz false 9 v=some (.bool r)):=by
 refine Ret.of (fn:=x36) rfl (Run.of ?_)
 unfold qcq at hF
 have zf0:qy [lst (cL cI) a_0,lst (cL cI) b_1] 0=lst (cL cI) a_0:=rfl
 have zf1:qy [lst (cL cI) a_0,lst (cL cI) b_1] 1=lst (cL cI) b_1:=rfl
 generalize qy [lst (cL cI) a_0,lst (cL cI) b_1]=fr0 at zf0 zf1 ⊢
 have hS:Sep h (geL h.length) []:=Sep.nil h
 simp only [x36,qd,qc,qe,qa,q7r,zf0,zj,qb,zr,zf1,qm,yq,qr,B0,reduceIte,reduceEqDiff]
 refine qq (t:=(decide ((List.length a_0:Int)≠(List.length b_1:Int)))) (fun hc1=>?_) (fun hc1=>?_)
 ·rw [iteT hc1] at hF
  simp only [qd,qc,qe,qa,qs,B0,reduceIte,reduceEqDiff]
  have he:=qf hF
  subst he
  simp only [qw,B0,reduceIte,reduceEqDiff]
  exact rfl
 rw [iteF hc1] at hF
 simp only [qt,q4r,qd,qc,qe,qa,B0,reduceIte,reduceEqDiff]
 obtain ⟨oc6,hX8,hk9⟩:=jm hF
 simp only [q7f]
 refine yb (σ:=Int) (fun s41=>qa3 k a_0 b_1 s41) (fun s fr' h'=>fr' 0=lst (cL cI) a_0∧fr' 1=lst (cL cI) b_1∧fr' 5 = .int .i64 s∧Sep h'
   (geL h.length) ([])) hX8 ⟨zf0,zf1,rfl,hS⟩ (fun _ _ _ h=>h) ?_ ?_
 ·rintro s3 fr18 h19 ⟨f21,f22,f23,hS20⟩ oc7 hF10 hr11 Q12 hN13 hK14 hR15 hE16
  unfold qa3 at hF10
  simp only [q27,qd,qc,f23,qe,f21,zj,qb,zr,qm,kr,qa,qr,B0,reduceIte,reduceEqDiff]
  refine qq (t:=(decide (s3<(List.length a_0:Int)))) (fun hc25=>?_) (fun hc25=>?_)
  ·rw [iteT hc25] at hF10
   obtain ⟨x26,hx27,hF28⟩:=qi hF10
   simp only [qt,q36,qd,jq,q00,j5,f21,ja,qp,f23,qbq,B0,reduceIte,reduceEqDiff]
   refine q9 (v := .ref ((cL cI) x26) 0) (je hx27 rfl) ?_
   simp only [z8,B0,reduceIte,reduceEqDiff]
   refine q9 (v:=lst cI x26) rfl ?_
   obtain ⟨x29,hx30,hF31⟩:=qi hF28
   simp only [f22,ja,qp,f23,qbq,B0,reduceIte,reduceEqDiff]
   refine q9 (v := .ref ((cL cI) x29) 0) (je hx30 rfl) ?_
   simp only [z8,B0,reduceIte,reduceEqDiff]
   refine q9 (v:=lst cI x29) rfl ?_
   obtain ⟨v32,hx33,hF34⟩:=qi hF31
   simp only [wa,B0,reduceIte,reduceEqDiff]
   refine qds rfl (qk zx (qk zx zd)) (qf0 (fun b hb=>decide_eq_true hb) k x26 x29 v32 hx33) ?_
   simp only [qhd,qp,kt,zk,qr,B0,reduceIte,reduceEqDiff]
   refine qq (t:=(!v32)) (fun hc35=>?_) (fun hc35=>?_)
   ·rw [iteT hc35] at hF34
    simp only [qd,qc,qe,qa,qs,B0,reduceIte,reduceEqDiff]
    have e36:=qf hF34
    subst e36
    have ho37:=hr11 _ rfl
    have hk38:=hk9
    rw [ho37] at hk38
    dsimp only [jnO] at hk38
    apply hR15
    have he:=qf hk38
    subst he
    simp only [qw,B0,reduceIte,reduceEqDiff]
    exact rfl
   rw [iteF hc35] at hF34
   simp only [qt,kh,qc,f23,qe,qm,qb,j8,qa,ql,B0,reduceIte,reduceEqDiff]
   have e39:=qf hF34
   exact hN13 _ _ _ e39.symm ⟨f21,f22,rfl,hS20⟩
  rw [iteF hc25] at hF10
  simp only [kg,ka,ky,B0,reduceIte,reduceEqDiff]
  have e40:=qf hF10
  exact hK14 _ _ _ e40.symm ⟨f21,f22,f23,hS20⟩
 rintro s42 fr43 h44 rfl ⟨f46,f47,f48,hS45⟩
 dsimp only [jnO] at hk9
 unfold qg6 at hk9
 simp only [qd,qc,qe,qa,qs,B0,reduceIte,reduceEqDiff]
 have he:=qf hk9
 subst he
 simp only [qw,B0,reduceIte,reduceEqDiff]
 exact rfl
theorem qjj {W:Nat→Bool}{h:Heap} (hW:∀ b,
  (geL h.length) b→W b=true) (a_0:ElectStep) (b_1:ElectStep) (r:Bool) (hF:qad a_0 b_1=some r) : Ret E W 76 [.agg [.int .i64 a_0.Term,
  .int .i64 a_0.Leader],.agg [.int .i64 b_1.Term,.int .i64 b_1.Leader]] h (fun v h'=>cut h.length h' E.sz false 9 v=some (.bool r)):=by
 refine Ret.of (fn:=x76) rfl (Run.of ?_)
 unfold qad at hF
 have zf0:qy [.agg [.int .i64 a_0.Term,.int .i64 a_0.Leader],.agg [.int .i64 b_1.Term,.int .i64 b_1.Leader]] 0 = .agg [.int .i64 a_0.Term,.int .i64 a_0.Leader]:=rfl
 have zf1:qy [.agg [.int .i64 a_0.Term,.int .i64 a_0.Leader],.agg [.int .i64 b_1.Term,.int .i64 b_1.Leader]] 1 = .agg [.int .i64 b_1.Term,.int .i64 b_1.Leader]:=rfl
 generalize qy [.agg [.int .i64 a_0.Term,.int .i64 a_0.Leader],.agg [.int .i64 b_1.Term,.int .i64 b_1.Leader]]=fr0 at zf0 zf1 ⊢
 have hS:Sep h (geL h.length) []:=Sep.nil h
 simp only [x76,qd,qc,kx,zf0,B0,reduceIte,reduceEqDiff]
 refine ju (cs:=[.int .i64 a_0.Term,.int .i64 a_0.Leader]) hS rfl rfl rfl (fun b1 h2 hS3=>?_)
 simp only [kx,zf1,B0,reduceIte,reduceEqDiff]
 refine ju (cs:=[.int .i64 b_1.Term,.int .i64 b_1.Leader]) hS3 rfl rfl rfl (fun b5 h6 hS7=>?_)
 simp only [qe,qa,B0,reduceIte,reduceEqDiff]
 refine jd (Sep.m1 hS7) hW (by simp only [B0,reduceIte,reduceEqDiff]) (fun h9 hS10=>?_)
 refine jd hS10 hW (by simp only [B0,reduceIte,reduceEqDiff]) (fun h11 hS12=>?_)
 simp only [jc,q5i,qd,qc,qn,qb,Nat.reduceAdd,Nat.zero_add,Nat.add_zero,qu,qj,B0,reduceIte,reduceEqDiff]
 refine qh (v := .int .i64 a_0.Term) rfl ?_
 simp only [qn,qb,Nat.reduceAdd,Nat.zero_add,Nat.add_zero,qu,qj,B0,reduceIte,reduceEqDiff]
 refine qh (v := .int .i64 b_1.Term) rfl ?_
 simp only [qm,qb,yq,qa,qr,B0,reduceIte,reduceEqDiff]
 refine qq (t:=(decide (a_0.Term≠b_1.Term))) (fun hc13=>?_) (fun hc13=>?_)
 ·rw [iteT hc13] at hF
  simp only [qd,qc,qe,qa,qs,B0,reduceIte,reduceEqDiff]
  have he:=qf hF
  subst he
  simp only [qw,B0,reduceIte,reduceEqDiff]
  exact rfl
 rw [iteF hc13] at hF
 simp only [qt,qz5,qd,qc,qn,qb,Nat.reduceAdd,Nat.zero_add,Nat.add_zero,qu,qj,B0,reduceIte,reduceEqDiff]
 refine qh (v := .int .i64 a_0.Leader) rfl ?_
 simp only [qn,qb,Nat.reduceAdd,Nat.zero_add,Nat.add_zero,qu,qj,B0,reduceIte,reduceEqDiff]
 refine qh (v := .int .i64 b_1.Leader) rfl ?_
 simp only [qm,qb,yq,qa,qr,B0,reduceIte,reduceEqDiff]
 refine qq (t:=(decide (a_0.Leader≠b_1.Leader))) (fun hc14=>?_) (fun hc14=>?_)
 ·rw [iteT hc14] at hF
  simp only [qd,qc,qe,qa,qs,B0,reduceIte,reduceEqDiff]
  have he:=qf hF
  subst he
  simp only [qw,B0,reduceIte,reduceEqDiff]
  exact rfl
 rw [iteF hc14] at hF
 simp only [qt,qd,qc,qe,qa,qs,B0,reduceIte,reduceEqDiff]
 have he:=qf hF
 subst he
 simp only [qw,B0,reduceIte,reduceEqDiff]
 exact rfl
theorem qip {W:Nat→Bool}{h:Heap} (hW:∀ b,
  (geL h.length) b→W b=true) (k:Nat) (a_0:List ElectStep) (b_1:List ElectStep) (r:Bool)
  (hF:ul k a_0 b_1=some r) : Ret E W 37 [lst ElectStep.cells a_0,
  lst ElectStep.cells b_1] h (fun v h'=>cut h.length h' E.sz false 9 v=some (.bool r)):=by
 refine Ret.of (fn:=x37) rfl (Run.of ?_)
 unfold ul at hF
 have zf0:qy [lst ElectStep.cells a_0,lst ElectStep.cells b_1] 0=lst ElectStep.cells a_0:=rfl
 have zf1:qy [lst ElectStep.cells a_0,lst ElectStep.cells b_1] 1=lst ElectStep.cells b_1:=rfl
 generalize qy [lst ElectStep.cells a_0,lst ElectStep.cells b_1]=fr0 at zf0 zf1 ⊢
 have hS:Sep h (geL h.length) []:=Sep.nil h
 simp only [x37,qd,qc,qe,qa,qzt,zf0,zj,qb,zr,zf1,qm,yq,qr,B0,reduceIte,reduceEqDiff]
 refine qq (t:=(decide ((List.length a_0:Int)≠(List.length b_1:Int)))) (fun hc1=>?_) (fun hc1=>?_)
 ·rw [iteT hc1] at hF
  simp only [qd,qc,qe,qa,qs,B0,reduceIte,reduceEqDiff]
  have he:=qf hF
  subst he
  simp only [qw,B0,reduceIte,reduceEqDiff]
  exact rfl
 rw [iteF hc1] at hF
 simp only [qt,q4z,qd,qc,qe,qa,B0,reduceIte,reduceEqDiff]
 obtain ⟨oc6,hX8,hk9⟩:=jm hF
 simp only [q25]
 refine yb (σ:=Int) (fun s41=>w5 a_0 b_1 s41)
   (fun s fr' h'=>fr' 0=lst ElectStep.cells a_0∧fr' 1=lst ElectStep.cells b_1∧fr' 5 = .int .i64 s∧Sep h' (geL h.length) ([])) hX8 ⟨zf0,zf1,rfl,
   hS⟩ (fun _ _ _ h=>h) ?_ ?_
 ·rintro s3 fr18 h19 ⟨f21,f22,f23,hS20⟩ oc7 hF10 hr11 Q12 hN13 hK14 hR15 hE16
  unfold w5 at hF10
  simp only [q6m,qd,qc,f23,qe,f21,zj,qb,zr,qm,kr,qa,qr,B0,reduceIte,reduceEqDiff]
  refine qq (t:=(decide (s3<(List.length a_0:Int)))) (fun hc25=>?_) (fun hc25=>?_)
  ·rw [iteT hc25] at hF10
   obtain ⟨x26,hx27,hF28⟩:=qi hF10
   simp only [qt,q4k,qd,jq,q0s,j5,f21,ja,qp,f23,qbq,B0,reduceIte,reduceEqDiff]
   refine q9 (v := .ref (ElectStep.cells x26) 0) (je hx27 rfl) ?_
   simp only [z8,B0,reduceIte,reduceEqDiff]
   refine q9 (v := .agg [.int .i64 x26.Term,.int .i64 x26.Leader]) rfl ?_
   obtain ⟨x29,hx30,hF31⟩:=qi hF28
   simp only [f22,ja,qp,f23,qbq,B0,reduceIte,reduceEqDiff]
   refine q9 (v := .ref (ElectStep.cells x29) 0) (je hx30 rfl) ?_
   simp only [z8,B0,reduceIte,reduceEqDiff]
   refine q9 (v := .agg [.int .i64 x29.Term,.int .i64 x29.Leader]) rfl ?_
   obtain ⟨v32,hx33,hF34⟩:=qi hF31
   simp only [wa,B0,reduceIte,reduceEqDiff]
   refine qds rfl (qk (kq (qk za (qk za zd))) (qk (kq (qk za (qk za zd))) zd)) (qjj
     (fun b hb=>decide_eq_true hb) x26 x29 v32 hx33) ?_
   simp only [qhd,qp,kt,zk,qr,B0,reduceIte,reduceEqDiff]
   refine qq (t:=(!v32)) (fun hc35=>?_) (fun hc35=>?_)
   ·rw [iteT hc35] at hF34
    simp only [qd,qc,qe,qa,qs,B0,reduceIte,reduceEqDiff]
    have e36:=qf hF34
    subst e36
    have ho37:=hr11 _ rfl
    have hk38:=hk9
    rw [ho37] at hk38
    dsimp only [jnO] at hk38
    apply hR15
    have he:=qf hk38
    subst he
    simp only [qw,B0,reduceIte,reduceEqDiff]
    exact rfl
   rw [iteF hc35] at hF34
   simp only [qt,kh,qc,f23,qe,qm,qb,j8,qa,ql,B0,reduceIte,reduceEqDiff]
   have e39:=qf hF34
   exact hN13 _ _ _ e39.symm ⟨f21,f22,rfl,hS20⟩
  rw [iteF hc25] at hF10
  simp only [kg,ka,ky,B0,reduceIte,reduceEqDiff]
  have e40:=qf hF10
  exact hK14 _ _ _ e40.symm ⟨f21,f22,f23,hS20⟩
 rintro s42 fr43 h44 rfl ⟨f46,f47,f48,hS45⟩
 dsimp only [jnO] at hk9
 unfold qeh at hk9
 simp only [qd,qc,qe,qa,qs,B0,reduceIte,reduceEqDiff]
 have he:=qf hk9
 subst he
 simp only [qw,B0,reduceIte,reduceEqDiff]
 exact rfl
theorem qef {W:Nat→Bool}{h:Heap}{lo:Nat→Prop}{S0:List Obj} (hW:∀ b,
  lo b→W b=true) (k:Nat) (pv0:XV) (pc0:List Obj) (a_0:List Int) (ph0:SlF cI 1 3 pv0 a_0 pc0) (k_1:Int) (r:Int × (List Int))
  (hF:uj k a_0 k_1=some r) (hS:Sep h lo (pc0++(S0))) : Ret E W 77 [pv0,.int .i64 k_1] h (fun v h'=>∃ ic0,
  v = .int .i64 r.1∧SlF cI 1 3 pv0 r.2 ic0∧Sep h' lo (ic0++(S0))):=by
 refine Ret.of (fn:=x77) rfl (Run.of ?_)
 unfold uj at hF
 have zf0:qy [pv0,.int .i64 k_1] 0=pv0:=rfl
 have zf1:qy [pv0,.int .i64 k_1] 1 = .int .i64 k_1:=rfl
 generalize qy [pv0,.int .i64 k_1]=fr0 at zf0 zf1 ⊢
 simp only [x77,qd,qc,qe,qa,q6v,B0,reduceIte,reduceEqDiff]
 obtain ⟨oc13,hX15,hk16⟩:=jm hF
 simp only [q5l]
 refine yb (σ:=Int × Int × (List Int)) (fun s45=>qae s45.1 s45.2.1 s45.2.2) (fun s fr' h'=>∃ c9,
   fr' 0=pv0∧fr' 1 = .int .i64 s.1∧fr' 5 = .int .i64 s.2.1∧SlF cI 1 3 pv0 s.2.2 c9∧Sep h' lo (c9++(S0))) hX15 ⟨pc0,zf0,zf1,rfl,ph0,hS⟩ (fun _ _ _ h=>h) ?_ ?_
 ·rintro ⟨s6,s7,s8⟩ fr25 h26 ⟨c9,f28,f29,f30,hv10,hS27⟩ oc14 hF17 hr18 Q19 hN20 hK21 hR22 hE23
  dsimp only at *
  unfold qae at hF17
  simp only [q3q,qd,qc,f30,qe,f28,zj,qb,SlF.plen hv10,qm,kr,qa,qr,B0,reduceIte,reduceEqDiff]
  refine qq (t:=(decide (s7<(List.length s8:Int)))) (fun hc32=>?_) (fun hc32=>?_)
  ·rw [iteT hc32] at hF17
   obtain ⟨x33,hx34,hF35⟩:=qi hF17
   simp only [qt,q3c,qd,jq,q6t,qc,f28,qe,f30,f29,zt,B0,reduceIte,reduceEqDiff]
   obtain ⟨b36,hb37⟩:=SlF.isrow hv10 (yo hx34)
   refine qh (SlF.ia hv10 hb37 hx34) ?_
   simp only [ze,B0,reduceIte,reduceEqDiff]
   refine ws (f:=cI) (x':=s6) (o:=0) hv10 hS27 hW hb37 hx34 (fun _=>rfl) rfl rfl (Nat.le_of_ble_eq_true rfl) rfl (fun c40 h38 hv41 hS39=>?_)
   have hx42:=jz (x':=s6) hx34
   simp only [qa,qc,f29,qe,qm,qb,j8,kh,f30,ql,B0,reduceIte,reduceEqDiff]
   have e43:=qf hF35
   exact hN20 _ _ _ e43.symm ⟨c40,f28,rfl,rfl,hv41,hS39⟩
  rw [iteF hc32] at hF17
  simp only [kg,ka,ky,B0,reduceIte,reduceEqDiff]
  have e44:=qf hF17
  exact hK21 _ _ _ e44.symm ⟨c9,f28,f29,f30,hv10,hS27⟩
 rintro ⟨s46,s47,s48⟩ fr51 h52 rfl ⟨c49,f54,f55,f56,hv50,hS53⟩
 dsimp only [jnO] at hk16
 dsimp only at *
 unfold qgs at hk16
 simp only [qd,qc,f55,qe,qa,qs,B0,reduceIte,reduceEqDiff]
 have he:=qf hk16
 subst he
 simp only [qw,B0,reduceIte,reduceEqDiff]
 exact ⟨c49,by first | trivial | rfl,hv50,hS53⟩
theorem qj6 {W:Nat→Bool}{h:Heap}{lo:Nat→Prop}{S0:List Obj} (hW:∀ b,
  lo b→W b=true) (k:Nat) (pv0:XV) (pc0:List Obj) (a_0:List (List Int)) (ph0:SlN RL44 1 44 pv0 a_0 pc0) (k_1:Int) (r:Int × (List (List Int)))
  (hF:qb2 k a_0 k_1=some r) (hS:Sep h lo (pc0++(S0))) : Ret E W 38 [pv0,.int .i64 k_1] h (fun v h'=>∃ ic0,
  v = .int .i64 r.1∧SlN RL44 1 44 pv0 r.2 ic0∧Sep h' lo (ic0++(S0))):=by
 refine Ret.of (fn:=x38) rfl (Run.of ?_)
 unfold qb2 at hF
 have zf0:qy [pv0,.int .i64 k_1] 0=pv0:=rfl
 have zf1:qy [pv0,.int .i64 k_1] 1 = .int .i64 k_1:=rfl
 generalize qy [pv0,.int .i64 k_1]=fr0 at zf0 zf1 ⊢
 simp only [x38,qd,qc,qe,qa,q28,B0,reduceIte,reduceEqDiff]
 obtain ⟨oc13,hX15,hk16⟩:=jm hF
 simp only [q33]
 refine yb (σ:=Int × Int × (List (List Int))) (fun s63=>ur k s63.1 s63.2.1 s63.2.2) (fun s fr' h'=>∃ c9,
   fr' 0=pv0∧fr' 1 = .int .i64 s.1∧fr' 5 = .int .i64 s.2.1∧SlN RL44 1 44 pv0 s.2.2 c9∧Sep h' lo (c9++(S0))) hX15 ⟨pc0,zf0,zf1,rfl,ph0,
   hS⟩ (fun _ _ _ h=>h) ?_ ?_
 ·rintro ⟨s6,s7,s8⟩ fr25 h26 ⟨c9,f28,f29,f30,hv10,hS27⟩ oc14 hF17 hr18 Q19 hN20 hK21 hR22 hE23
  dsimp only at *
  unfold ur at hF17
  simp only [q2s,qd,qc,f30,qe,f28,zj,qb,SlN.len hv10,qm,kr,qa,qr,B0,reduceIte,reduceEqDiff]
  refine qq (t:=(decide (s7<(List.length s8:Int)))) (fun hc32=>?_) (fun hc32=>?_)
  ·rw [iteT hc32] at hF17
   obtain ⟨x33,hx34,hF35⟩:=qi hF17
   simp only [qt,q2d,qd,jq,qy5,qc,f28,qe,f30,zt,B0,reduceIte,reduceEqDiff]
   obtain ⟨b36,hb37⟩:=SlN.isrow hv10 (yo hx34)
   refine qh (SlN.ia hv10 hb37 hx34) ?_
   obtain ⟨c38,cs39,os40,hv41,hR42,hS43⟩:=SlG.opn (SlN.toG hv10 hb37 RL44O.len) hx34 jp RL44O.len hS27
   obtain ⟨v45,c46,hv47,rfl,rfl⟩:=hR42
   have hS44:=Sep.no1 hS43
   simp only [qj,B0,reduceIte,reduceEqDiff]
   refine qh (v:=v45) ((SlG.ld (o:=0) hv41 rfl hx34 hS44 (Nat.le_of_ble_eq_true rfl)).trans rfl) ?_
   obtain ⟨v49,hx50,hF51⟩:=qi hF35
   simp only [f29,qe,zb,B0,reduceIte,reduceEqDiff]
   refine x3 rfl (qef hW k v45 c46 x33 hv47 s6 v49 hx50 (Sep.m1 hS44)) ?_
   rintro _ h54 ⟨c52,rfl,hv53,hS55⟩
   simp only [qe,qa,kh,qc,f30,qm,qb,j8,ql,B0,reduceIte,reduceEqDiff]
   obtain ⟨c56,hv57,hS58⟩:=SlG.cls (e':=v49.2) (c:=c38) (os:=c52) hv41 rfl hx34 jp (RL44I (x:=v49.2) hv53) (Sep.m1 hS55)
   have hx59:=jz (x':=v49.2) hx34
   have hv60:=SlG.toN hv57
   have e61:=qf hF51
   exact hN20 _ _ _ e61.symm ⟨c56,f28,rfl,rfl,hv60,hS58⟩
  rw [iteF hc32] at hF17
  simp only [kg,ka,ky,B0,reduceIte,reduceEqDiff]
  have e62:=qf hF17
  exact hK21 _ _ _ e62.symm ⟨c9,f28,f29,f30,hv10,hS27⟩
 rintro ⟨s64,s65,s66⟩ fr69 h70 rfl ⟨c67,f72,f73,f74,hv68,hS71⟩
 dsimp only [jnO] at hk16
 dsimp only at *
 unfold qf5 at hk16
 simp only [qd,qc,f73,qe,qa,qs,B0,reduceIte,reduceEqDiff]
 have he:=qf hk16
 subst he
 simp only [qw,B0,reduceIte,reduceEqDiff]
 exact ⟨c67,by first | trivial | rfl,hv68,hS71⟩
theorem qhs {W:Nat→Bool}{h:Heap}{lo:Nat→Prop}{S0:List Obj} (hW:∀ b,
  lo b→W b=true) (k:Nat) (pv0:XV) (pc0:List Obj) (a_0:List ElectStep) (ph0:SlF ElectStep.cells 2 49 pv0 a_0 pc0) (k_1:Int) (r:Int × (List ElectStep))
  (hF:xm k a_0 k_1=some r) (hS:Sep h lo (pc0++(S0))) : Ret E W 39 [pv0,.int .i64 k_1] h (fun v h'=>∃ ic0,
  v = .int .i64 r.1∧SlF ElectStep.cells 2 49 pv0 r.2 ic0∧Sep h' lo (ic0++(S0))):=by
 refine Ret.of (fn:=x39) rfl (Run.of ?_)
 unfold xm at hF
 have zf0:qy [pv0,.int .i64 k_1] 0=pv0:=rfl
 have zf1:qy [pv0,.int .i64 k_1] 1 = .int .i64 k_1:=rfl
 generalize qy [pv0,.int .i64 k_1]=fr0 at zf0 zf1 ⊢
 simp only [x39,qd,qc,qe,qa,q21,B0,reduceIte,reduceEqDiff]
 obtain ⟨oc13,hX15,hk16⟩:=jm hF
 simp only [q0d]
 refine yb (σ:=Int × Int × (List ElectStep)) (fun s50=>wi s50.1 s50.2.1 s50.2.2) (fun s fr' h'=>∃ c9,
   fr' 0=pv0∧fr' 1 = .int .i64 s.1∧fr' 5 = .int .i64 s.2.1∧SlF ElectStep.cells 2 49 pv0 s.2.2 c9∧Sep h' lo (c9++(S0))) hX15 ⟨pc0,zf0,zf1,rfl,ph0,
   hS⟩ (fun _ _ _ h=>h) ?_ ?_
 ·rintro ⟨s6,s7,s8⟩ fr25 h26 ⟨c9,f28,f29,f30,hv10,hS27⟩ oc14 hF17 hr18 Q19 hN20 hK21 hR22 hE23
  dsimp only at *
  unfold wi at hF17
  simp only [q6g,qd,qc,f30,qe,f28,zj,qb,SlF.plen hv10,qm,kr,qa,qr,B0,reduceIte,reduceEqDiff]
  refine qq (t:=(decide (s7<(List.length s8:Int)))) (fun hc32=>?_) (fun hc32=>?_)
  ·rw [iteT hc32] at hF17
   obtain ⟨x33,hx34,hF35⟩:=qi hF17
   simp only [qt,q1x,qd,jq,q6l,qc,f28,qe,f30,f29,zt,B0,reduceIte,reduceEqDiff]
   obtain ⟨b36,hb37⟩:=SlF.isrow hv10 (yo hx34)
   refine qh (SlF.ia hv10 hb37 hx34) ?_
   simp only [qn,qb,Nat.reduceAdd,Nat.zero_add,Nat.add_zero,qx,ze,B0,reduceIte,reduceEqDiff]
   refine ws (f:=ElectStep.cells) (x':=(ElectStep.mk s6 x33.Leader)) (o:=0) hv10 hS27 hW hb37 hx34 (fun _=>rfl) rfl rfl (Nat.le_of_ble_eq_true rfl) rfl
     (fun c40 h38 hv41 hS39=>?_)
   have hx42:=jz (x':=(ElectStep.mk s6 x33.Leader)) hx34
   simp only [qa,qzy,qd,qc,f29,qe,qm,qb,j8,q4w,f28,f30,zt,B0,reduceIte,reduceEqDiff]
   refine qh (SlF.ia hv41 hb37 hx42) ?_
   simp only [qn,qb,Nat.reduceAdd,Nat.zero_add,Nat.add_zero,qx,ze,B0,reduceIte,reduceEqDiff]
   refine ws (f:=ElectStep.cells) (x':=(ElectStep.mk s6 (IntKind.wrap .i64 (s6+1)))) (o:=1) hv41 hS39 hW hb37 hx42 (fun _=>rfl) rfl rfl
     (Nat.le_of_ble_eq_true rfl) rfl (fun c45 h43 hv46 hS44=>?_)
   rw [List.set_set] at hv46
   have hx47:=jz (x':=(ElectStep.mk s6 (IntKind.wrap .i64 (s6+1)))) hx34
   simp only [qa,qc,qe,qm,qb,j8,kh,f30,ql,B0,reduceIte,reduceEqDiff]
   have e48:=qf hF35
   exact hN20 _ _ _ e48.symm ⟨c45,f28,rfl,rfl,hv46,hS44⟩
  rw [iteF hc32] at hF17
  simp only [kg,ka,ky,B0,reduceIte,reduceEqDiff]
  have e49:=qf hF17
  exact hK21 _ _ _ e49.symm ⟨c9,f28,f29,f30,hv10,hS27⟩
 rintro ⟨s51,s52,s53⟩ fr56 h57 rfl ⟨c54,f59,f60,f61,hv55,hS58⟩
 dsimp only [jnO] at hk16
 dsimp only at *
 unfold qdv at hk16
 simp only [qd,qc,f60,qe,qa,qs,B0,reduceIte,reduceEqDiff]
 have he:=qf hk16
 subst he
 simp only [qw,B0,reduceIte,reduceEqDiff]
 exact ⟨c54,by first | trivial | rfl,hv55,hS58⟩
theorem qjg {W:Nat→Bool}{h:Heap}{lo:Nat→Prop}{S0:List Obj} (hW:∀ b,
  lo b→W b=true) (k:Nat) (pv0:XV) (pc0:List Obj) (a_0:List Server) (ph0:SlN Server.R 6 46 pv0 a_0 pc0) (k_1:Int) (r:Int × (List Server))
  (hF:qaj k a_0 k_1=some r) (hS:Sep h lo (pc0++(S0))) : Ret E W 78 [pv0,.int .i64 k_1] h (fun v h'=>∃ ic0,
  v = .int .i64 r.1∧SlN Server.R 6 46 pv0 r.2 ic0∧Sep h' lo (ic0++(S0))):=by
 refine Ret.of (fn:=x78) rfl (Run.of ?_)
 unfold qaj at hF
 have zf0:qy [pv0,.int .i64 k_1] 0=pv0:=rfl
 have zf1:qy [pv0,.int .i64 k_1] 1 = .int .i64 k_1:=rfl
 generalize qy [pv0,.int .i64 k_1]=fr0 at zf0 zf1 ⊢
 simp only [x78,qd,qc,qe,qa,qt9,B0,reduceIte,reduceEqDiff]
 obtain ⟨oc13,hX15,hk16⟩:=jm hF
 simp only [qut]
 refine yb (σ:=Int × Int × (List Server)) (fun s90=>xp k s90.1 s90.2.1 s90.2.2) (fun s fr' h'=>∃ c9,
   fr' 0=pv0∧fr' 1 = .int .i64 s.1∧fr' 5 = .int .i64 s.2.1∧SlN Server.R 6 46 pv0 s.2.2 c9∧Sep h' lo (c9++(S0))) hX15 ⟨pc0,zf0,zf1,rfl,ph0,
   hS⟩ (fun _ _ _ h=>h) ?_ ?_
 ·rintro ⟨s6,s7,s8⟩ fr25 h26 ⟨c9,f28,f29,f30,hv10,hS27⟩ oc14 hF17 hr18 Q19 hN20 hK21 hR22 hE23
  dsimp only at *
  unfold xp at hF17
  simp only [qui,qd,qc,f30,qe,f28,zj,qb,SlN.len hv10,qm,kr,qa,qr,B0,reduceIte,reduceEqDiff]
  refine qq (t:=(decide (s7<(List.length s8:Int)))) (fun hc32=>?_) (fun hc32=>?_)
  ·rw [iteT hc32] at hF17
   obtain ⟨x33,hx34,hF35⟩:=qi hF17
   simp only [qt,qv7,qd,jq,qwg,qc,f28,qe,f30,f29,zt,B0,reduceIte,reduceEqDiff]
   obtain ⟨b36,hb37⟩:=SlN.isrow hv10 (yo hx34)
   refine qh (SlN.ia hv10 hb37 hx34) ?_
   obtain ⟨c40,cs41,os42,hv43,hR44,hS45⟩:=SlG.opn (SlN.toG hv10 hb37 Server.RO.len) hx34 jp Server.RO.len hS27
   obtain ⟨v47,c48,v51,c52,hv49,hv53,rfl,rfl⟩:=hR44
   have hS46:=Sep.no2 hS45
   simp only [qn,qb,Nat.reduceAdd,Nat.zero_add,Nat.add_zero,qx,ze,B0,reduceIte,reduceEqDiff]
   refine k8 (n:=6) (us:=[.int .i64 s6]) (cs:=[.int .i64 x33.Term,.int .i64 x33.Voted,.bool x33.Stands,.bool x33.Leads,v47,
     v51]) (o:=0) (cs':=[.int .i64 s6,.int .i64 x33.Voted,.bool x33.Stands,.bool x33.Leads,v47,
     v51]) rfl hv43 rfl hx34 hS46 hW rfl rfl (Nat.le_of_ble_eq_true rfl) rfl (fun c55 h38 hv56 hS39=>?_)
   simp only [qa,q5t,qd,qc,f29,qe,qm,qb,j8,q67,f28,f30,zt,B0,reduceIte,reduceEqDiff]
   refine qh (SlG.ia hv56 hx34) ?_
   simp only [qn,qb,Nat.reduceAdd,Nat.zero_add,Nat.add_zero,qx,ze,B0,reduceIte,reduceEqDiff]
   refine k8 (n:=6) (us:=[.int .i64 (IntKind.wrap .i64 (s6+1))]) (cs:=[.int .i64 s6,.int .i64 x33.Voted,.bool x33.Stands,.bool x33.Leads,v47,
     v51]) (o:=1) (cs':=[.int .i64 s6,.int .i64 (IntKind.wrap .i64 (s6+1)),.bool x33.Stands,.bool x33.Leads,v47,
     v51]) rfl hv56 rfl hx34 hS39 hW rfl rfl (Nat.le_of_ble_eq_true rfl) rfl (fun c59 h57 hv60 hS58=>?_)
   simp only [qa,q64,qd,qc,qe,qm,qb,j8,qy9,f28,f30,qck (n:=3) (by decide),yi,zt,B0,reduceIte,reduceEqDiff]
   refine qh (SlG.ia hv60 hx34) ?_
   simp only [qn,qb,Nat.reduceAdd,Nat.zero_add,Nat.add_zero,qx,ze,B0,reduceIte,reduceEqDiff]
   refine k8 (n:=6) (us:=[.bool (decide ((Int.tmod (IntKind.wrap .i64 ((IntKind.wrap .i64 (s6+1))+1)) 3)=0))]) (cs:=[.int .i64 s6,
     .int .i64 (IntKind.wrap .i64 (s6+1)),.bool x33.Stands,.bool x33.Leads,v47,v51]) (o:=2) (cs':=[.int .i64 s6,.int .i64 (IntKind.wrap .i64 (s6+1)),
     .bool (decide ((Int.tmod (IntKind.wrap .i64 ((IntKind.wrap .i64 (s6+1))+1)) 3)=0)),.bool x33.Leads,v47,
     v51]) rfl hv60 rfl hx34 hS58 hW rfl rfl (Nat.le_of_ble_eq_true rfl) rfl (fun c63 h61 hv64 hS62=>?_)
   simp only [qa,q18,qd,qc,qe,qm,qb,j8,q0n,f28,f30,qck (n:=3) (by decide),yi,zt,B0,reduceIte,reduceEqDiff]
   refine qh (SlG.ia hv64 hx34) ?_
   simp only [qn,qb,Nat.reduceAdd,Nat.zero_add,Nat.add_zero,qx,ze,B0,reduceIte,reduceEqDiff]
   refine k8 (n:=6) (us:=[.bool (decide ((Int.tmod (IntKind.wrap .i64 ((IntKind.wrap .i64 ((IntKind.wrap .i64 (s6+1))+1))+1)) 3)=0))]) (cs:=[.int .i64 s6,
     .int .i64 (IntKind.wrap .i64 (s6+1)),.bool (decide ((Int.tmod (IntKind.wrap .i64 ((IntKind.wrap .i64 (s6+1))+1)) 3)=0)),.bool x33.Leads,v47,
     v51]) (o:=3) (cs':=[.int .i64 s6,.int .i64 (IntKind.wrap .i64 (s6+1)),.bool (decide ((Int.tmod (IntKind.wrap .i64 ((IntKind.wrap .i64 (s6+1))+1)) 3)=0)),
     .bool (decide ((Int.tmod (IntKind.wrap .i64 ((IntKind.wrap .i64 ((IntKind.wrap .i64 (s6+1))+1))+1)) 3)=0)),v47,
     v51]) rfl hv64 rfl hx34 hS62 hW rfl rfl (Nat.le_of_ble_eq_true rfl) rfl (fun c67 h65 hv68 hS66=>?_)
   simp only [qa,q7x,qd,qc,qe,qm,qb,j8,q16,f28,f30,zt,B0,reduceIte,reduceEqDiff]
   refine qh (SlG.ia hv68 hx34) ?_
   simp only [qn,qb,Nat.reduceAdd,Nat.zero_add,Nat.add_zero,qx,qj,B0,reduceIte,reduceEqDiff]
   refine qh (v:=v47) ((SlG.ld (o:=4) hv68 rfl hx34 hS66 (Nat.le_of_ble_eq_true rfl)).trans rfl) ?_
   obtain ⟨v69,hx70,hF71⟩:=qi hF35
   simp only [qe,zb,B0,reduceIte,reduceEqDiff]
   refine x3 rfl (qef hW k v47 c48 x33.Got hv49 (IntKind.wrap .i64 ((IntKind.wrap .i64 ((IntKind.wrap .i64 ((IntKind.wrap .i64
     (s6+1))+1))+1))+1)) v69 hx70 (Sep.m1 hS66)) ?_
   rintro _ h74 ⟨c72,rfl,hv73,hS75⟩
   simp only [qe,qa,q10,qc,f28,f30,zt,B0,reduceIte,reduceEqDiff]
   refine qh (SlG.ia hv68 hx34) ?_
   simp only [qn,qb,Nat.reduceAdd,Nat.zero_add,Nat.add_zero,qx,qj,B0,reduceIte,reduceEqDiff]
   refine qh (v:=v51) ((SlG.ld (o:=5) hv68 rfl hx34 (Sep.m1 hS75) (Nat.le_of_ble_eq_true rfl)).trans rfl) ?_
   obtain ⟨v76,hx77,hF78⟩:=qi hF71
   simp only [qe,zb,B0,reduceIte,reduceEqDiff]
   refine x3 rfl (qef hW k v51 c52 x33.Log hv53 v69.1 v76 hx77 (Sep.m2 hS75)) ?_
   rintro _ h81 ⟨c79,rfl,hv80,hS82⟩
   simp only [qe,qa,kh,qc,f30,qm,qb,j8,ql,B0,reduceIte,reduceEqDiff]
   obtain ⟨c83,hv84,hS85⟩:=SlG.cls (e':=(Server.mk s6 (IntKind.wrap .i64 (s6+1)) (decide ((Int.tmod (IntKind.wrap .i64 ((IntKind.wrap .i64 (s6+1))+1)) 3)=0))
     (decide ((Int.tmod (IntKind.wrap .i64 ((IntKind.wrap .i64 ((IntKind.wrap .i64 (s6+1))+1))+1)) 3)=0)) v69.2 v76.2)) (c:=c67) (os:=c72 ++
     (c79)) hv68 rfl hx34 jp (Server.RI (x:=(Server.mk s6 (IntKind.wrap .i64 (s6+1)) (decide ((Int.tmod (IntKind.wrap .i64 ((IntKind.wrap .i64
     (s6+1))+1)) 3)=0)) (decide ((Int.tmod (IntKind.wrap .i64 ((IntKind.wrap .i64 ((IntKind.wrap .i64 (s6+1))+1))+1)) 3)=0)) v69.2 v76.2)) hv73 hv80) (Sep.ni2
     (c1:=c72) (c2:=c79) (Sep.m2 (Sep.m1 hS82)))
   have hx86:=jz (x':=(Server.mk s6 (IntKind.wrap .i64 (s6+1)) (decide ((Int.tmod (IntKind.wrap .i64 ((IntKind.wrap .i64 (s6+1))+1)) 3)=0)) (decide
     ((Int.tmod (IntKind.wrap .i64 ((IntKind.wrap .i64 ((IntKind.wrap .i64 (s6+1))+1))+1)) 3)=0)) v69.2 v76.2)) hx34
   have hv87:=SlG.toN hv84
   have e88:=qf hF78
   exact hN20 _ _ _ e88.symm ⟨c83,f28,rfl,rfl,hv87,hS85⟩
  rw [iteF hc32] at hF17
  simp only [kg,ka,ky,B0,reduceIte,reduceEqDiff]
  have e89:=qf hF17
  exact hK21 _ _ _ e89.symm ⟨c9,f28,f29,f30,hv10,hS27⟩
 rintro ⟨s91,s92,s93⟩ fr96 h97 rfl ⟨c94,f99,f100,f101,hv95,hS98⟩
 dsimp only [jnO] at hk16
 dsimp only at *
 unfold qew at hk16
 simp only [qd,qc,f100,qe,qa,qs,B0,reduceIte,reduceEqDiff]
 have he:=qf hk16
 subst he
 simp only [qw,B0,reduceIte,reduceEqDiff]
 exact ⟨c94,by first | trivial | rfl,hv95,hS98⟩
theorem qi7 {W:Nat→Bool}{h:Heap}{lo:Nat→Prop}{S0:List Obj} (hW:∀ b,
  lo b→W b=true) (k:Nat) (pv0:XV) (pc0:List Obj) (v_0:List Letter) (ph0:SlF Letter.cells 7 93 pv0 v_0 pc0) (v_1:Int) (r:Int × (List Letter))
  (hF:qal k v_0 v_1=some r) (hS:Sep h lo (pc0++(S0))) : Ret E W 79 [pv0,.int .i64 v_1] h (fun v h'=>∃ ic0,
  v = .int .i64 r.1∧SlF Letter.cells 7 93 pv0 r.2 ic0∧Sep h' lo (ic0++(S0))):=by
 refine Ret.of (fn:=x79) rfl (Run.of ?_)
 unfold qal at hF
 have zf0:qy [pv0,.int .i64 v_1] 0=pv0:=rfl
 have zf1:qy [pv0,.int .i64 v_1] 1 = .int .i64 v_1:=rfl
 generalize qy [pv0,.int .i64 v_1]=fr0 at zf0 zf1 ⊢
 simp only [x79,qd,qc,qe,qa,qxc,B0,reduceIte,reduceEqDiff]
 obtain ⟨oc13,hX15,hk16⟩:=jm hF
 simp only [qth]
 refine yb (σ:=Int × Int × (List Letter)) (fun s75=>xq s75.1 s75.2.1 s75.2.2) (fun s fr' h'=>∃ c9,
   fr' 0=pv0∧fr' 1 = .int .i64 s.1∧fr' 5 = .int .i64 s.2.1∧SlF Letter.cells 7 93 pv0 s.2.2 c9∧Sep h' lo (c9++(S0))) hX15 ⟨pc0,zf0,zf1,rfl,ph0,
   hS⟩ (fun _ _ _ h=>h) ?_ ?_
 ·rintro ⟨s6,s7,s8⟩ fr25 h26 ⟨c9,f28,f29,f30,hv10,hS27⟩ oc14 hF17 hr18 Q19 hN20 hK21 hR22 hE23
  dsimp only at *
  unfold xq at hF17
  simp only [qwv,qd,qc,f30,qe,f28,zj,qb,SlF.plen hv10,qm,kr,qa,qr,B0,reduceIte,reduceEqDiff]
  refine qq (t:=(decide (s7<(List.length s8:Int)))) (fun hc32=>?_) (fun hc32=>?_)
  ·rw [iteT hc32] at hF17
   obtain ⟨x33,hx34,hF35⟩:=qi hF17
   simp only [qt,qsy,qd,jq,qww,qc,f28,qe,f30,f29,zt,B0,reduceIte,reduceEqDiff]
   obtain ⟨b36,hb37⟩:=SlF.isrow hv10 (yo hx34)
   refine qh (SlF.ia hv10 hb37 hx34) ?_
   simp only [qn,qb,Nat.reduceAdd,Nat.zero_add,Nat.add_zero,qx,ze,B0,reduceIte,reduceEqDiff]
   refine ws (f:=Letter.cells) (x':=(Letter.mk s6 x33.From x33.Term x33.Asks x33.Last x33.Long x33.Grant)) (o:=0) hv10 hS27 hW hb37 hx34 (fun _=>rfl) rfl rfl
     (Nat.le_of_ble_eq_true rfl) rfl (fun c40 h38 hv41 hS39=>?_)
   have hx42:=jz (x':=(Letter.mk s6 x33.From x33.Term x33.Asks x33.Last x33.Long x33.Grant)) hx34
   simp only [qa,qrg,qd,qc,f29,qe,qm,qb,j8,qv6,f28,f30,zt,B0,reduceIte,reduceEqDiff]
   refine qh (SlF.ia hv41 hb37 hx42) ?_
   simp only [qn,qb,Nat.reduceAdd,Nat.zero_add,Nat.add_zero,qx,ze,B0,reduceIte,reduceEqDiff]
   refine ws (f:=Letter.cells) (x':=(Letter.mk s6 (IntKind.wrap .i64 (s6+1)) x33.Term x33.Asks x33.Last x33.Long x33.Grant)) (o:=1) hv41 hS39 hW hb37 hx42
     (fun _=>rfl) rfl rfl (Nat.le_of_ble_eq_true rfl) rfl (fun c45 h43 hv46 hS44=>?_)
   rw [List.set_set] at hv46
   have hx47:=jz (x':=(Letter.mk s6 (IntKind.wrap .i64 (s6+1)) x33.Term x33.Asks x33.Last x33.Long x33.Grant)) hx34
   simp only [qa,qsn,qd,qc,qe,qm,qb,j8,qz4,f28,f30,zt,B0,reduceIte,reduceEqDiff]
   refine qh (SlF.ia hv46 hb37 hx47) ?_
   simp only [qn,qb,Nat.reduceAdd,Nat.zero_add,Nat.add_zero,qx,ze,B0,reduceIte,reduceEqDiff]
   refine ws (f:=Letter.cells) (x':=(Letter.mk s6 (IntKind.wrap .i64 (s6+1)) (IntKind.wrap .i64 ((IntKind.wrap .i64
     (s6+1))+1)) x33.Asks x33.Last x33.Long x33.Grant)) (o:=2) hv46 hS44 hW hb37 hx47 (fun _=>rfl) rfl rfl (Nat.le_of_ble_eq_true rfl) rfl
     (fun c50 h48 hv51 hS49=>?_)
   rw [List.set_set] at hv51
   have hx52:=jz (x':=(Letter.mk s6 (IntKind.wrap .i64 (s6+1)) (IntKind.wrap .i64 ((IntKind.wrap .i64 (s6+1))+1)) x33.Asks x33.Last x33.Long x33.Grant)) hx34
   simp only [qa,qzf,qd,qc,qe,qm,qb,j8,q49,f28,f30,qck (n:=3) (by decide),yi,zt,B0,reduceIte,reduceEqDiff]
   refine qh (SlF.ia hv51 hb37 hx52) ?_
   simp only [qn,qb,Nat.reduceAdd,Nat.zero_add,Nat.add_zero,qx,ze,B0,reduceIte,reduceEqDiff]
   refine ws (f:=Letter.cells) (x':=(Letter.mk s6 (IntKind.wrap .i64 (s6+1)) (IntKind.wrap .i64 ((IntKind.wrap .i64 (s6+1))+1)) (decide ((Int.tmod
     (IntKind.wrap .i64 ((IntKind.wrap .i64 ((IntKind.wrap .i64 (s6+1))+1))+1)) 3)=0)) x33.Last x33.Long x33.Grant)) (o:=3) hv51 hS49 hW hb37 hx52
     (fun _=>rfl) rfl rfl (Nat.le_of_ble_eq_true rfl) rfl (fun c55 h53 hv56 hS54=>?_)
   rw [List.set_set] at hv56
   have hx57:=jz (x':=(Letter.mk s6 (IntKind.wrap .i64 (s6+1)) (IntKind.wrap .i64 ((IntKind.wrap .i64 (s6+1))+1)) (decide ((Int.tmod (IntKind.wrap .i64
     ((IntKind.wrap .i64 ((IntKind.wrap .i64 (s6+1))+1))+1)) 3)=0)) x33.Last x33.Long x33.Grant)) hx34
   simp only [qa,q6x,qd,qc,qe,qm,qb,j8,q07,f28,f30,zt,B0,reduceIte,reduceEqDiff]
   refine qh (SlF.ia hv56 hb37 hx57) ?_
   simp only [qn,qb,Nat.reduceAdd,Nat.zero_add,Nat.add_zero,qx,ze,B0,reduceIte,reduceEqDiff]
   refine ws (f:=Letter.cells) (x':=(Letter.mk s6 (IntKind.wrap .i64 (s6+1)) (IntKind.wrap .i64 ((IntKind.wrap .i64 (s6+1))+1)) (decide ((Int.tmod
     (IntKind.wrap .i64 ((IntKind.wrap .i64 ((IntKind.wrap .i64 (s6+1))+1))+1)) 3)=0)) (IntKind.wrap .i64 ((IntKind.wrap .i64 ((IntKind.wrap .i64 ((IntKind.wrap .i64
     (s6+1))+1))+1))+1)) x33.Long x33.Grant)) (o:=4) hv56 hS54 hW hb37 hx57 (fun _=>rfl) rfl rfl (Nat.le_of_ble_eq_true rfl) rfl (fun c60 h58 hv61 hS59=>?_)
   rw [List.set_set] at hv61
   have hx62:=jz (x':=(Letter.mk s6 (IntKind.wrap .i64 (s6+1)) (IntKind.wrap .i64 ((IntKind.wrap .i64 (s6+1))+1)) (decide ((Int.tmod (IntKind.wrap .i64
     ((IntKind.wrap .i64 ((IntKind.wrap .i64 (s6+1))+1))+1)) 3)=0)) (IntKind.wrap .i64 ((IntKind.wrap .i64 ((IntKind.wrap .i64 ((IntKind.wrap .i64
     (s6+1))+1))+1))+1)) x33.Long x33.Grant)) hx34
   simp only [qa,q05,qd,qc,qe,qm,qb,j8,q4p,f28,f30,zt,B0,reduceIte,reduceEqDiff]
   refine qh (SlF.ia hv61 hb37 hx62) ?_
   simp only [qn,qb,Nat.reduceAdd,Nat.zero_add,Nat.add_zero,qx,ze,B0,reduceIte,reduceEqDiff]
   refine ws (f:=Letter.cells) (x':=(Letter.mk s6 (IntKind.wrap .i64 (s6+1)) (IntKind.wrap .i64 ((IntKind.wrap .i64 (s6+1))+1)) (decide ((Int.tmod
     (IntKind.wrap .i64 ((IntKind.wrap .i64 ((IntKind.wrap .i64 (s6+1))+1))+1)) 3)=0)) (IntKind.wrap .i64 ((IntKind.wrap .i64 ((IntKind.wrap .i64 ((IntKind.wrap .i64
     (s6+1))+1))+1))+1)) (IntKind.wrap .i64 ((IntKind.wrap .i64 ((IntKind.wrap .i64 ((IntKind.wrap .i64 ((IntKind.wrap .i64
     (s6+1))+1))+1))+1))+1)) x33.Grant)) (o:=5) hv61 hS59 hW hb37 hx62 (fun _=>rfl) rfl rfl (Nat.le_of_ble_eq_true rfl) rfl (fun c65 h63 hv66 hS64=>?_)
   rw [List.set_set] at hv66
   have hx67:=jz (x':=(Letter.mk s6 (IntKind.wrap .i64 (s6+1)) (IntKind.wrap .i64 ((IntKind.wrap .i64 (s6+1))+1)) (decide ((Int.tmod (IntKind.wrap .i64
     ((IntKind.wrap .i64 ((IntKind.wrap .i64 (s6+1))+1))+1)) 3)=0)) (IntKind.wrap .i64 ((IntKind.wrap .i64 ((IntKind.wrap .i64 ((IntKind.wrap .i64
     (s6+1))+1))+1))+1)) (IntKind.wrap .i64 ((IntKind.wrap .i64 ((IntKind.wrap .i64 ((IntKind.wrap .i64 ((IntKind.wrap .i64
     (s6+1))+1))+1))+1))+1)) x33.Grant)) hx34
   simp only [qa,q1r,qd,qc,qe,qm,qb,j8,q54,f28,f30,qck (n:=3) (by decide),yi,zt,B0,reduceIte,reduceEqDiff]
   refine qh (SlF.ia hv66 hb37 hx67) ?_
   simp only [qn,qb,Nat.reduceAdd,Nat.zero_add,Nat.add_zero,qx,ze,B0,reduceIte,reduceEqDiff]
   refine ws (f:=Letter.cells) (x':=(Letter.mk s6 (IntKind.wrap .i64 (s6+1)) (IntKind.wrap .i64 ((IntKind.wrap .i64 (s6+1))+1)) (decide ((Int.tmod
     (IntKind.wrap .i64 ((IntKind.wrap .i64 ((IntKind.wrap .i64 (s6+1))+1))+1)) 3)=0)) (IntKind.wrap .i64 ((IntKind.wrap .i64 ((IntKind.wrap .i64 ((IntKind.wrap .i64
     (s6+1))+1))+1))+1)) (IntKind.wrap .i64 ((IntKind.wrap .i64 ((IntKind.wrap .i64 ((IntKind.wrap .i64 ((IntKind.wrap .i64 (s6+1))+1))+1))+1))+1)) (decide
     ((Int.tmod (IntKind.wrap .i64 ((IntKind.wrap .i64 ((IntKind.wrap .i64 ((IntKind.wrap .i64 ((IntKind.wrap .i64 ((IntKind.wrap .i64
     (s6+1))+1))+1))+1))+1))+1)) 3)=0)))) (o:=6) hv66 hS64 hW hb37 hx67 (fun _=>rfl) rfl rfl (Nat.le_of_ble_eq_true rfl) rfl (fun c70 h68 hv71 hS69=>?_)
   rw [List.set_set] at hv71
   have hx72:=jz (x':=(Letter.mk s6 (IntKind.wrap .i64 (s6+1)) (IntKind.wrap .i64 ((IntKind.wrap .i64 (s6+1))+1)) (decide ((Int.tmod (IntKind.wrap .i64
     ((IntKind.wrap .i64 ((IntKind.wrap .i64 (s6+1))+1))+1)) 3)=0)) (IntKind.wrap .i64 ((IntKind.wrap .i64 ((IntKind.wrap .i64 ((IntKind.wrap .i64
     (s6+1))+1))+1))+1)) (IntKind.wrap .i64 ((IntKind.wrap .i64 ((IntKind.wrap .i64 ((IntKind.wrap .i64 ((IntKind.wrap .i64 (s6+1))+1))+1))+1))+1)) (decide
     ((Int.tmod (IntKind.wrap .i64 ((IntKind.wrap .i64 ((IntKind.wrap .i64 ((IntKind.wrap .i64 ((IntKind.wrap .i64 ((IntKind.wrap .i64
     (s6+1))+1))+1))+1))+1))+1)) 3)=0)))) hx34
   simp only [qa,qc,qe,qm,qb,j8,kh,f30,ql,B0,reduceIte,reduceEqDiff]
   have e73:=qf hF35
   exact hN20 _ _ _ e73.symm ⟨c70,f28,rfl,rfl,hv71,hS69⟩
  rw [iteF hc32] at hF17
  simp only [kg,ka,ky,B0,reduceIte,reduceEqDiff]
  have e74:=qf hF17
  exact hK21 _ _ _ e74.symm ⟨c9,f28,f29,f30,hv10,hS27⟩
 rintro ⟨s76,s77,s78⟩ fr81 h82 rfl ⟨c79,f84,f85,f86,hv80,hS83⟩
 dsimp only [jnO] at hk16
 dsimp only at *
 unfold qez at hk16
 simp only [qd,qc,f85,qe,qa,qs,B0,reduceIte,reduceEqDiff]
 have he:=qf hk16
 subst he
 simp only [qw,B0,reduceIte,reduceEqDiff]
 exact ⟨c79,by first | trivial | rfl,hv80,hS83⟩
theorem qkj {W:Nat→Bool}{h:Heap}{lo:Nat→Prop}{S0:List Obj} (hW:∀ b,
  lo b→W b=true) (k:Nat) (pv0:XV) (pc0:List Obj) (a_0:List Vote) (ph0:SlF Vote.cells 2 39 pv0 a_0 pc0) (k_1:Int) (r:Int × (List Vote))
  (hF:qb6 k a_0 k_1=some r) (hS:Sep h lo (pc0++(S0))) : Ret E W 80 [pv0,.int .i64 k_1] h (fun v h'=>∃ ic0,
  v = .int .i64 r.1∧SlF Vote.cells 2 39 pv0 r.2 ic0∧Sep h' lo (ic0++(S0))):=by
 refine Ret.of (fn:=x80) rfl (Run.of ?_)
 unfold qb6 at hF
 have zf0:qy [pv0,.int .i64 k_1] 0=pv0:=rfl
 have zf1:qy [pv0,.int .i64 k_1] 1 = .int .i64 k_1:=rfl
 generalize qy [pv0,.int .i64 k_1]=fr0 at zf0 zf1 ⊢
 simp only [x80,qd,qc,qe,qa,q2y,B0,reduceIte,reduceEqDiff]
 obtain ⟨oc13,hX15,hk16⟩:=jm hF
 simp only [q34]
 refine yb (σ:=Int × Int × (List Vote)) (fun s50=>uu s50.1 s50.2.1 s50.2.2) (fun s fr' h'=>∃ c9,
   fr' 0=pv0∧fr' 1 = .int .i64 s.1∧fr' 5 = .int .i64 s.2.1∧SlF Vote.cells 2 39 pv0 s.2.2 c9∧Sep h' lo (c9++(S0))) hX15 ⟨pc0,zf0,zf1,rfl,ph0,
   hS⟩ (fun _ _ _ h=>h) ?_ ?_
 ·rintro ⟨s6,s7,s8⟩ fr25 h26 ⟨c9,f28,f29,f30,hv10,hS27⟩ oc14 hF17 hr18 Q19 hN20 hK21 hR22 hE23
  dsimp only at *
  unfold uu at hF17
  simp only [q2b,qd,qc,f30,qe,f28,zj,qb,SlF.plen hv10,qm,kr,qa,qr,B0,reduceIte,reduceEqDiff]
  refine qq (t:=(decide (s7<(List.length s8:Int)))) (fun hc32=>?_) (fun hc32=>?_)
  ·rw [iteT hc32] at hF17
   obtain ⟨x33,hx34,hF35⟩:=qi hF17
   simp only [qt,q0a,qd,jq,q0f,qc,f28,qe,f30,f29,zt,B0,reduceIte,reduceEqDiff]
   obtain ⟨b36,hb37⟩:=SlF.isrow hv10 (yo hx34)
   refine qh (SlF.ia hv10 hb37 hx34) ?_
   simp only [qn,qb,Nat.reduceAdd,Nat.zero_add,Nat.add_zero,qx,ze,B0,reduceIte,reduceEqDiff]
   refine ws (f:=Vote.cells) (x':=(Vote.mk s6 x33.Leader)) (o:=0) hv10 hS27 hW hb37 hx34 (fun _=>rfl) rfl rfl (Nat.le_of_ble_eq_true rfl) rfl
     (fun c40 h38 hv41 hS39=>?_)
   have hx42:=jz (x':=(Vote.mk s6 x33.Leader)) hx34
   simp only [qa,q3z,qd,qc,f29,qe,qm,qb,j8,q42,f28,f30,zt,B0,reduceIte,reduceEqDiff]
   refine qh (SlF.ia hv41 hb37 hx42) ?_
   simp only [qn,qb,Nat.reduceAdd,Nat.zero_add,Nat.add_zero,qx,ze,B0,reduceIte,reduceEqDiff]
   refine ws (f:=Vote.cells) (x':=(Vote.mk s6 (IntKind.wrap .i64 (s6+1)))) (o:=1) hv41 hS39 hW hb37 hx42 (fun _=>rfl) rfl rfl (Nat.le_of_ble_eq_true rfl) rfl
     (fun c45 h43 hv46 hS44=>?_)
   rw [List.set_set] at hv46
   have hx47:=jz (x':=(Vote.mk s6 (IntKind.wrap .i64 (s6+1)))) hx34
   simp only [qa,qc,qe,qm,qb,j8,kh,f30,ql,B0,reduceIte,reduceEqDiff]
   have e48:=qf hF35
   exact hN20 _ _ _ e48.symm ⟨c45,f28,rfl,rfl,hv46,hS44⟩
  rw [iteF hc32] at hF17
  simp only [kg,ka,ky,B0,reduceIte,reduceEqDiff]
  have e49:=qf hF17
  exact hK21 _ _ _ e49.symm ⟨c9,f28,f29,f30,hv10,hS27⟩
 rintro ⟨s51,s52,s53⟩ fr56 h57 rfl ⟨c54,f59,f60,f61,hv55,hS58⟩
 dsimp only [jnO] at hk16
 dsimp only at *
 unfold qf8 at hk16
 simp only [qd,qc,f60,qe,qa,qs,B0,reduceIte,reduceEqDiff]
 have he:=qf hk16
 subst he
 simp only [qw,B0,reduceIte,reduceEqDiff]
 exact ⟨c54,by first | trivial | rfl,hv55,hS58⟩
theorem qis {W:Nat→Bool}{h:Heap}{lo:Nat→Prop}{S0:List Obj} (hW:∀ b,
  lo b→W b=true) (k:Nat) (a_0:Election) (pv0_0:XV) (pc0_0:List Obj) (ph0_0:SlN Server.R 6 46 pv0_0 a_0.Servers pc0_0) (pv0_1:XV) (pc0_1:List Obj)
  (ph0_1:SlF Letter.cells 7 93 pv0_1 a_0.Post pc0_1) (pv0_2:XV) (pc0_2:List Obj) (ph0_2:SlF Vote.cells 2 39 pv0_2 a_0.Led pc0_2) (k_1:Int) (r:Int × Election)
  (hF:um k a_0 k_1=some r) (hS:Sep h lo (pc0_0++(pc0_1++(pc0_2++(S0))))) : Ret E W 40 [.agg [pv0_0,pv0_1,pv0_2],
  .int .i64 k_1] h (fun v h'=>∃ ic0_0 ic0_1 ic0_2,
  v = .int .i64 r.1∧SlN Server.R 6 46 pv0_0 r.2.Servers ic0_0∧SlF Letter.cells 7 93 pv0_1 r.2.Post ic0_1∧SlF Vote.cells 2 39 pv0_2 r.2.Led ic0_2∧Sep h' lo (ic0_0 ++
  (ic0_1++(ic0_2++(S0))))):=by
 refine Ret.of (fn:=x40) rfl (Run.of ?_)
 unfold um at hF
 have zf0:qy [.agg [pv0_0,pv0_1,pv0_2],.int .i64 k_1] 0 = .agg [pv0_0,pv0_1,pv0_2]:=rfl
 have zf1:qy [.agg [pv0_0,pv0_1,pv0_2],.int .i64 k_1] 1 = .int .i64 k_1:=rfl
 generalize qy [.agg [pv0_0,pv0_1,pv0_2],.int .i64 k_1]=fr0 at zf0 zf1 ⊢
 simp only [x40,qd,qc,kx,zf0,B0,reduceIte,reduceEqDiff]
 refine ju (cs:=[pv0_0,pv0_1,pv0_2]) hS rfl rfl (qo (SlN.one ph0_0) (qo (SlF.one ph0_1) (qo (SlF.one ph0_2) zn))) (fun b1 h2 hS3=>?_)
 simp only [qe,qa,B0,reduceIte,reduceEqDiff]
 refine jd hS3 hW (by simp only [B0,reduceIte,reduceEqDiff]) (fun h5 hS6=>?_)
 simp only [jc,q4h,qd,qc,qn,qb,Nat.reduceAdd,Nat.zero_add,Nat.add_zero,qu,qj,B0,reduceIte,reduceEqDiff]
 refine qh (v:=pv0_0) rfl ?_
 obtain ⟨v7,hx8,hF9⟩:=qi hF
 simp only [zf1,qe,zb,B0,reduceIte,reduceEqDiff]
 refine x3 rfl (qjg hW k pv0_0 pc0_0 a_0.Servers ph0_0 k_1 v7 hx8 hS6) ?_
 rintro _ h12 ⟨c10,rfl,hv11,hS13⟩
 simp only [qe,qa,q55,qd,qc,qn,qb,Nat.reduceAdd,Nat.zero_add,Nat.add_zero,qu,qj,B0,reduceIte,reduceEqDiff]
 refine qh (v:=pv0_1) rfl ?_
 obtain ⟨v14,hx15,hF16⟩:=qi hF9
 simp only [qe,zb,B0,reduceIte,reduceEqDiff]
 refine x3 rfl (qi7 hW k pv0_1 pc0_1 a_0.Post ph0_1 v7.1 v14 hx15 (Sep.m1 hS13)) ?_
 rintro _ h19 ⟨c17,rfl,hv18,hS20⟩
 simp only [qe,qa,q1u,qd,qc,qn,qb,Nat.reduceAdd,Nat.zero_add,Nat.add_zero,qu,qj,B0,reduceIte,reduceEqDiff]
 refine qh (v:=pv0_2) rfl ?_
 obtain ⟨v21,hx22,hF23⟩:=qi hF16
 simp only [qe,zb,B0,reduceIte,reduceEqDiff]
 refine x3 rfl (qkj hW k pv0_2 pc0_2 a_0.Led ph0_2 v14.1 v21 hx22 (Sep.m2 hS20)) ?_
 rintro _ h26 ⟨c24,rfl,hv25,hS27⟩
 simp only [qe,qa,qd,qc,qs,B0,reduceIte,reduceEqDiff]
 have he:=qf hF23
 subst he
 simp only [qw,B0,reduceIte,reduceEqDiff]
 exact ⟨c10,c17,c24,by first | trivial | rfl,hv11,hv18,hv25,(Sep.m2 (Sep.m1 hS27))⟩
end Go.Proofs.Ytpddolihbnfahaa.X
