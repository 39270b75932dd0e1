/- The functions' code comes to what the plain functions say (2). -/
import Derived.Test.YtddkoiapboeemaaXO1H1
set_option linter.unusedVariables false
set_option linter.unusedSimpArgs false
set_option maxRecDepth 100000
namespace Go.Proofs.Ytddkoiapboeemaa.X
open Go
open Nat (reduceEqDiff)
theorem qdr (rec:(List Int)→(List Call)→(Int→Int→Option Bool)→Option ((List Int) × Bool))
  (hrec:∀ {W:Nat→Bool} {h:Heap} {lo:Nat→Prop} {S0:List Obj} (hW:∀ b,
  lo b→W b=true) (pv0:XV) (pc0:List Obj) (order_0:List Int) (ph0:SlF cI 1 3 pv0 order_0 pc0) (cap_0:List Call) {gc1:Nat} {capsc1:List XV}
  (hmc1:E.mode gc1=1) (cap_1:Int→Int→Option Bool) (hfc1:∀ (W:Nat→Bool) (h:Heap),(∀ b,h.length≤b→W b=true)→∀ a0 a1 r,
  cap_1 a0 a1=some r→Ret E W gc1 ([.int .i64 a0,
  .int .i64 a1]++capsc1) h (fun v h'=>cut h.length h' E.sz false 9 v=some (.bool r))) (pbs:Nat) (r:(List Int) × Bool) (hF:rec order_0 cap_0 cap_1=some r)
  (hS:Sep h lo (pc0++([Blk1 pbs [.fn 67 [.ref ((cL qb) cap_0) 0,.ref [.fn gc1 capsc1] 0,.ptr pbs 0]] 79]++(S0)))),Ret E W 67 [pv0,
  .ref ((cL qb) cap_0) 0,.ref [.fn gc1 capsc1] 0,.ptr pbs 0] h (fun v h'=>∃ rv0 rc0,v = .tup [rv0,
  .bool r.2]∧SlF cI 1 3 rv0 r.1 rc0∧Sep h' lo (rc0++([Blk1 pbs [.fn 67 [.ref ((cL qb) cap_0) 0,.ref [.fn gc1 capsc1] 0,
  .ptr pbs 0]] 79]++(S0))))) {W:Nat→Bool} {h:Heap} {lo:Nat→Prop} {S0:List Obj} (hW:∀ b,
  lo b→W b=true) (pv0:XV) (pc0:List Obj) (order_0:List Int) (ph0:SlF cI 1 3 pv0 order_0 pc0) (cap_0:List Call) {gc1:Nat} {capsc1:List XV}
  (hmc1:E.mode gc1=1) (cap_1:Int→Int→Option Bool) (hfc1:∀ (W:Nat→Bool) (h:Heap),(∀ b,h.length≤b→W b=true)→∀ a0 a1 r,
  cap_1 a0 a1=some r→Ret E W gc1 ([.int .i64 a0,
  .int .i64 a1]++capsc1) h (fun v h'=>cut h.length h' E.sz false 9 v=some (.bool r))) (pbs:Nat) (r:(List Int) × Bool)
  (hF:yl rec order_0 cap_0 cap_1=some r) (hS:Sep h lo (pc0++([Blk1 pbs [.fn 67 [.ref ((cL qb) cap_0) 0,.ref [.fn gc1 capsc1] 0,
  .ptr pbs 0]] 79]++(S0)))) : Ret E W 67 [pv0,.ref ((cL qb) cap_0) 0,.ref [.fn gc1 capsc1] 0,.ptr pbs 0] h (fun v h'=>∃ rv0 rc0,v = .tup [rv0,
  .bool r.2]∧SlF cI 1 3 rv0 r.1 rc0∧Sep h' lo (rc0++([Blk1 pbs [.fn 67 [.ref ((cL qb) cap_0) 0,.ref [.fn gc1 capsc1] 0,.ptr pbs 0]] 79]++(S0)))):=by
 refine Ret.of (fn:=x67) rfl (Run.of ?_)
 unfold yl at hF
 have zf0:qq [pv0,.ref ((cL qb) cap_0) 0,.ref [.fn gc1 capsc1] 0,.ptr pbs 0] 0=pv0:=rfl
 have zf1:qq [pv0,.ref ((cL qb) cap_0) 0,.ref [.fn gc1 capsc1] 0,.ptr pbs 0] 1 = .ref ((cL qb) cap_0) 0:=rfl
 have zf2:qq [pv0,.ref ((cL qb) cap_0) 0,.ref [.fn gc1 capsc1] 0,.ptr pbs 0] 2 = .ref [.fn gc1 capsc1] 0:=rfl
 have zf3:qq [pv0,.ref ((cL qb) cap_0) 0,.ref [.fn gc1 capsc1] 0,.ptr pbs 0] 3 = .ptr pbs 0:=rfl
 generalize qq [pv0,.ref ((cL qb) cap_0) 0,.ref [.fn gc1 capsc1] 0,.ptr pbs 0]=fr0 at zf0 zf1 zf2 zf3 ⊢
 simp only [x67,qg,qe,qd,qa,qnr,zf0,zl,qc,SlF.plen ph0,zf1,qr,B0,reduceIte,reduceEqDiff]
 refine qj (v:=lst qb cap_0) rfl ?_
 simp only [zl,qc,zn,qv,qb2,qa,qq6,qx,B0,reduceIte,reduceEqDiff]
 refine qt (t:=(decide ((List.length order_0:Int)=(List.length cap_0:Int)))) (fun hc1=>?_) (fun hc1=>?_)
 ·rw [iteT hc1] at hF
  simp only [qg,qe,zf0,qd,qa,qs,B0,reduceIte,reduceEqDiff]
  have he:=qh hF
  subst he
  simp only [z7,B0,reduceIte,reduceEqDiff]
  exact ⟨pv0,pc0,by first | trivial | rfl,ph0,(Sep.m1 (Sep.m1 hS))⟩
 rw [iteF hc1] at hF
 simp only [q8,qn4,qg,qe,zf1,qr,B0,reduceIte,reduceEqDiff]
 refine qj (v:=lst qb cap_0) rfl ?_
 simp only [zl,qc,zn,qd,qa,B0,reduceIte,reduceEqDiff]
 obtain ⟨oc4,hX6,hk7⟩:=jd hF
 simp only [qve]
 refine qio (σ:=Unit) (fun i2 _=>yw order_0 cap_0 cap_1 rec i2 ) (fun s fr' h'=>fr' 0=pv0∧fr' 1 = .ref
   ((cL qb) cap_0) 0∧fr' 2 = .ref [.fn gc1 capsc1] 0∧fr' 3 = .ptr pbs 0∧Sep h' lo (pc0++([Blk1 pbs [.fn 67 [.ref ((cL qb) cap_0) 0,
   .ref [.fn gc1 capsc1] 0,.ptr pbs 0]] 79]++(S0)))) hX6 ⟨zf0,zf1,zf2,zf3,(Sep.m1 (Sep.m1 hS))⟩ (by simp only [B0,reduceIte,reduceEqDiff]) (by simp only [B0,
   reduceIte,reduceEqDiff]) (fun _ _ _ h=>h) rfl rfl (fun _ _ _ _ h=>h) (fun _ _ _ _ h=>h) (fun _ _ _ _ h=>h) (by decide) ?_ ?_
 ·rintro i2 _ fr16 h17 hx23 ⟨f19,f20,f21,f22,hS18⟩ f24 f25 oc5 hF8 hr9 Q10 hN11 hB15 hK12 hR13 hE14
  unfold yw at hF8
  simp only [qu1,qg,qe,f24,qd,qa,qtr,k8,evp,B0,reduceIte,reduceEqDiff]
  refine j8 (n:=1) (f:=cI) ([] : List Int) hS18 rfl rfl (fun v26 c27 h28 hv29 hS30=>?_)
  simp only [f19,qd,ur,B0,reduceIte,reduceEqDiff]
  obtain ⟨l32,hx33,hF34⟩:=qi hF8
  refine yx (f:=cI) hv29 hS30 hW (fun _=>rfl) (fun _=>rfl) (SlF.first ph0 (Sep.m1 hS30) (fun _=>rfl)) hx33 (fun v35 c36 h37 hv38 hS39=>?_)
  simp only [qd,k8,evp,B0,reduceIte,reduceEqDiff]
  refine j8 (n:=1) (f:=cI) [(i2:Int)] hS39 rfl rfl (fun v41 c42 h43 hv44 hS45=>?_)
  simp only [ur,B0,reduceIte,reduceEqDiff]
  obtain ⟨l47,hx48,hF49⟩:=qi hF34
  refine yx (f:=cI) hv38 (Sep.m1 hS45) hW (fun _=>rfl) (fun _=>rfl) (SlF.first hv44 hS45 (fun _=>rfl)) hx48 (fun v50 c51 h52 hv53 hS54=>?_)
  obtain ⟨v56,hx57,hF58⟩:=qi hF49
  simp only [qd,qa,qvn,qg,qe,f19,qo,B0,reduceIte,reduceEqDiff]
  refine zp rfl (ql (SlF.snap ph0 (Sep.m2 hS54) rfl (fun _=>rfl) (fun _=>rfl)) (ql qp zf)) (qdx (fun b hb=>decide_eq_true hb) order_0
    (i2:Int) v56 hx57) ?_
  simp only [qd,B0,reduceIte,reduceEqDiff]
  obtain ⟨v62,hx63,hF64⟩:=qi hF58
  refine zu 5 (fun fr' h'=>Sep h' lo (pc0++([Blk1 pbs [.fn 67 [.ref ((cL qb) cap_0) 0,.ref [.fn gc1 capsc1] 0,
    .ptr pbs 0]] 79]++(c51++(S0))))∧fr' 36 = .bool v62∧fr' 0=pv0∧fr' 1 = .ref
    ((cL qb) cap_0) 0∧fr' 2 = .ref [.fn gc1 capsc1] 0∧fr' 3 = .ptr pbs 0∧fr' 8=v50∧fr' 18 = .int .i64 (List.length cap_0:Int)∧fr' 19 = .int .i64
    (i2:Int)) (fun Q59 hN60=>?_) ?_
  ·simp only [List.take_succ_cons,List.take_zero]
   simp only [qf (g:=31),B0,reduceIte,reduceEqDiff]
   refine qy (t:=v56) (fun hg61=>?_) (fun hg61=>?_)
   ·rw [iteT hg61] at hx63
    simp only [hg61,qf (g:=31),z1,qn,qc,zj,qa,qk,B0,reduceIte,reduceEqDiff]
    have e65:=qh hx63
    exact hN60 _ _ ⟨(Sep.m2 (Sep.m2 (Sep.dc (Sep.m1 hS54)))),by rw [←e65]; simp only [B0,reduceIte,reduceEqDiff],f19,f20,f21,f22,rfl,f25,f24⟩
   ·rw [iteF hg61] at hx63
    simp only [hg61,qf (g:=31),qw,f20,qr,B0,reduceIte,reduceEqDiff]
    refine qj (v:=lst qb cap_0) rfl ?_
    obtain ⟨v66,hx67,hF68⟩:=qi hx63
    simp only [hg61,qf (g:=31),qw,qd,qo,B0,reduceIte,reduceEqDiff]
    refine zp rfl (ql zt (ql (SlF.snap hv53 hS54 rfl (fun _=>rfl) (fun _=>rfl)) zf)) (qd2
      (fun b hb=>decide_eq_true hb) cap_0 l47 v66 hx67) ?_
    simp only [hg61,qf (g:=31),qw,jc,qc,kt,qn,zi,qa,qk,B0,reduceIte,reduceEqDiff]
    have e69:=qh hF68
    exact hN60 _ _ ⟨(Sep.m2 (Sep.m2 (Sep.dc (Sep.m1 hS54)))),by rw [←e69]; simp only [B0,reduceIte,reduceEqDiff],f19,f20,f21,f22,rfl,f25,f24⟩
  rintro fr70 h79 ⟨hS80,f71,f72,f73,f74,f75,f76,f77,f78⟩
  simp only [List.drop_succ_cons,List.drop_zero]
  simp only [f71,qd,B0,reduceIte,reduceEqDiff]
  obtain ⟨v84,hx85,hF86⟩:=qi hF64
  refine zu 5 (fun fr' h'=>Sep h' lo (pc0++([Blk1 pbs [.fn 67 [.ref ((cL qb) cap_0) 0,.ref [.fn gc1 capsc1] 0,
    .ptr pbs 0]] 79]++(c51++(S0))))∧fr' 42 = .bool v84∧fr' 0=pv0∧fr' 1 = .ref
    ((cL qb) cap_0) 0∧fr' 2 = .ref [.fn gc1 capsc1] 0∧fr' 3 = .ptr pbs 0∧fr' 8=v50∧fr' 18 = .int .i64 (List.length cap_0:Int)∧fr' 19 = .int .i64
    (i2:Int)) (fun Q81 hN82=>?_) ?_
  ·simp only [List.take_succ_cons,List.take_zero]
   simp only [qf (g:=37),B0,reduceIte,reduceEqDiff]
   refine qy (t:=v62) (fun hg83=>?_) (fun hg83=>?_)
   ·rw [iteT hg83] at hx85
    simp only [hg83,qf (g:=37),z1,qn,qc,zj,qa,qk,B0,reduceIte,reduceEqDiff]
    have e87:=qh hx85
    exact hN82 _ _ ⟨(Sep.m2 (Sep.m2 (Sep.m2 hS80))),by rw [←e87]; simp only [B0,reduceIte,reduceEqDiff],f72,f73,f74,f75,f76,f77,f78⟩
   ·rw [iteF hg83] at hx85
    simp only [hg83,qf (g:=37),qw,f76,qd,f74,qr,B0,reduceIte,reduceEqDiff]
    refine qj (v := .fn gc1 capsc1) rfl ?_
    obtain ⟨v88,hx89,hF90⟩:=qi hx85
    simp only [hg83,qf (g:=37),qw,qo,B0,reduceIte,reduceEqDiff]
    refine zp rfl (ql (SlF.snap hv53 (Sep.m2 hS80) rfl (fun _=>rfl) (fun _=>rfl)) (ql qfi zf)) (qdt (fun b hb=>decide_eq_true hb) l47
      (g1:=gc1) (caps1:=capsc1) hmc1 cap_1 hfc1 v88 hx89) ?_
    simp only [hg83,qf (g:=37),qw,jc,qc,kt,qn,zi,qa,qk,B0,reduceIte,reduceEqDiff]
    have e91:=qh hF90
    exact hN82 _ _ ⟨(Sep.m2 (Sep.m2 (Sep.m2 hS80))),by rw [←e91]; simp only [B0,reduceIte,reduceEqDiff],f72,f73,f74,f75,f76,f77,f78⟩
  rintro fr92 h101 ⟨hS102,f93,f94,f95,f96,f97,f98,f99,f100⟩
  simp only [List.drop_succ_cons,List.drop_zero]
  simp only [qa,f93,qx,B0,reduceIte,reduceEqDiff]
  refine qt (t:=v84) (fun hc103=>?_) (fun hc103=>?_)
  ·rw [iteT hc103] at hF86
   simp only [u1,u7,qag,B0,reduceIte,reduceEqDiff]
   have e104:=qh hF86
   exact hB15 _ _ _ e104.symm ⟨f94,f95,f96,f97,(Sep.m1 (Sep.m1 (Sep.dc (Sep.m2 hS102))))⟩ (f100) (f99)
  rw [iteF hc103] at hF86
  simp only [q8,qwe,qg,qe,f97,qr,B0,reduceIte,reduceEqDiff]
  refine qj (v := .fn 67 [.ref ((cL qb) cap_0) 0,.ref [.fn gc1 capsc1] 0,.ptr pbs 0]) ((kq (Sep.bk _ _ _ (Sep.m1 hS102))).trans rfl) ?_
  obtain ⟨v105,hx106,hF107⟩:=qi hF86
  simp only [f98,qd,qo,B0,reduceIte,reduceEqDiff]
  refine jz rfl (hrec hW v50 c51 l47 hv53 cap_0 (gc1:=gc1) (capsc1:=capsc1) hmc1 cap_1 hfc1 pbs v105 hx106 (Sep.m2 (Sep.m1 hS102))) ?_
  rintro _ h112 ⟨v108,c109,rfl,hv110,hS113⟩
  simp only [qd,y7,qc,xe,xg,qa,qrd,qg,qe,qq4,qx,B0,reduceIte,reduceEqDiff]
  refine qt (t:=v105.2) (fun hc114=>?_) (fun hc114=>?_)
  ·rw [iteT hc114] at hF107
   simp only [qg,qe,qd,qa,qs,B0,reduceIte,reduceEqDiff]
   have e115:=qh hF107
   subst e115
   have ho116:=hr9 _ rfl
   have hk117:=hk7
   rw [ho116] at hk117
   dsimp only [jnO] at hk117
   apply hR13
   have he:=qh hk117
   subst he
   simp only [z7,B0,reduceIte,reduceEqDiff]
   exact ⟨v108,c109,by first | trivial | rfl,hv110,(Sep.m1 (Sep.m1 (Sep.dc (Sep.m2 hS113))))⟩
  rw [iteF hc114] at hF107
  simp only [q8,qk,B0,reduceIte,reduceEqDiff]
  have e118:=qh hF107
  exact hN11 _ _ _ e118.symm ⟨f94,f95,f96,f97,(Sep.m1 (Sep.dc (hS113)))⟩ (f100) (f99)
 rintro _ fr120 h121 rfl ⟨f123,f124,f125,f126,hS122⟩
 dsimp only [jnO] at hk7
 unfold qb8 at hk7
 simp only [qg,qe,qd,qa,qs,B0,reduceIte,reduceEqDiff]
 have he:=qh hk7
 subst he
 simp only [z7,B0,reduceIte,reduceEqDiff]
 exact ⟨.nil,[],by first | trivial | rfl,SlF.nil,((Sep.dc (hS122)) : Sep _ lo ([Blk1 pbs [.fn 67 [.ref ((cL qb) cap_0) 0,.ref [.fn gc1 capsc1] 0,
   .ptr pbs 0]] 79]++(S0)))⟩
theorem qel:∀ k:Nat,∀ {W:Nat→Bool} {h:Heap} {lo:Nat→Prop} {S0:List Obj} (hW:∀ b,
  lo b→W b=true) (pv0:XV) (pc0:List Obj) (order_0:List Int) (ph0:SlF cI 1 3 pv0 order_0 pc0) (cap_0:List Call) {gc1:Nat} {capsc1:List XV}
  (hmc1:E.mode gc1=1) (cap_1:Int→Int→Option Bool) (hfc1:∀ (W:Nat→Bool) (h:Heap),(∀ b,h.length≤b→W b=true)→∀ a0 a1 r,
  cap_1 a0 a1=some r→Ret E W gc1 ([.int .i64 a0,
  .int .i64 a1]++capsc1) h (fun v h'=>cut h.length h' E.sz false 9 v=some (.bool r))) (pbs:Nat) (r:(List Int) × Bool)
  (hF:kd k order_0 cap_0 cap_1=some r) (hS:Sep h lo (pc0++([Blk1 pbs [.fn 67 [.ref ((cL qb) cap_0) 0,.ref [.fn gc1 capsc1] 0,
  .ptr pbs 0]] 79]++(S0)))),Ret E W 67 [pv0,.ref ((cL qb) cap_0) 0,.ref [.fn gc1 capsc1] 0,.ptr pbs 0] h (fun v h'=>∃ rv0 rc0,v = .tup [rv0,
  .bool r.2]∧SlF cI 1 3 rv0 r.1 rc0∧Sep h' lo (rc0++([Blk1 pbs [.fn 67 [.ref ((cL qb) cap_0) 0,.ref [.fn gc1 capsc1] 0,.ptr pbs 0]] 79]++(S0)))):=by
 intro k
 induction k with
 | zero=>intros; rename_i hF _; cases hF
 | succ k ih=>exact @qdr (kd k) ih
theorem qfl {W:Nat→Bool}{h:Heap}{lo:Nat→Prop}{S0:List Obj} (hW:∀ b,
  lo b→W b=true) (k:Nat) (pv0:XV) (pc0:List Obj) (order_0:List Int) (ph0:SlF cI 1 3 pv0 order_0 pc0) (cap_0:List Call) {gc1:Nat} {capsc1:List XV}
  (hmc1:E.mode gc1=1) (cap_1:Int→Int→Option Bool) (hfc1:∀ (W:Nat→Bool) (h:Heap),(∀ b,h.length≤b→W b=true)→∀ a0 a1 r,
  cap_1 a0 a1=some r→Ret E W gc1 ([.int .i64 a0,
  .int .i64 a1]++capsc1) h (fun v h'=>cut h.length h' E.sz false 9 v=some (.bool r))) (pbs:Nat) (r:(List Int) × Bool)
  (hF:kd k order_0 cap_0 cap_1=some r) (hS:Sep h lo (pc0++([Blk1 pbs [.fn 67 [.ref ((cL qb) cap_0) 0,.ref [.fn gc1 capsc1] 0,
  .ptr pbs 0]] 79]++(S0)))) : Ret E W 67 [pv0,.ref ((cL qb) cap_0) 0,.ref [.fn gc1 capsc1] 0,.ptr pbs 0] h (fun v h'=>∃ rv0 rc0,v = .tup [rv0,
  .bool r.2]∧SlF cI 1 3 rv0 r.1 rc0∧Sep h' lo (rc0++([Blk1 pbs [.fn 67 [.ref ((cL qb) cap_0) 0,.ref [.fn gc1 capsc1] 0,
  .ptr pbs 0]] 79]++(S0)))):=qel k hW pv0 pc0 order_0 ph0 cap_0 hmc1 cap_1 hfc1 pbs r hF hS
theorem qgl {W:Nat→Bool}{h:Heap} (hW:∀ b,
  (geL h.length) b→W b=true) (k:Nat) (l_0:List Call) {g1:Nat} {caps1:List XV} (hm1:E.mode g1=1) (may_1:Int→Int→Option Bool) (hf1:∀ (W:Nat→Bool)
  (h:Heap),(∀ b,h.length≤b→W b=true)→∀ a0 a1 r,may_1 a0 a1=some r→Ret E W g1 ([.int .i64 a0,
  .int .i64 a1]++caps1) h (fun v h'=>cut h.length h' E.sz false 9 v=some (.bool r))) (r:(List Int) × Bool)
  (hF:wb k l_0 may_1=some r) : Ret E W 49 [lst qb l_0,.fn g1 caps1] h (fun v h'=>∃ rv0 rc0,v = .tup [rv0,
  .bool r.2]∧SlF cI 1 3 rv0 r.1 rc0∧Sep h' (geL h.length) (rc0++([]))):=by
 refine Ret.of (fn:=x49) rfl (Run.of ?_)
 unfold wb at hF
 have zf0:qq [lst qb l_0,.fn g1 caps1] 0=lst qb l_0:=rfl
 have zf1:qq [lst qb l_0,.fn g1 caps1] 1 = .fn g1 caps1:=rfl
 generalize qq [lst qb l_0,.fn g1 caps1]=fr0 at zf0 zf1 ⊢
 have hS:Sep h (geL h.length) []:=Sep.nil h
 simp only [x49,qg,qe,x9,zf0,B0,reduceIte,reduceEqDiff]
 refine yq (cs:=[lst qb l_0]) hS rfl rfl rfl (fun b1 h2 hS3=>?_)
 simp only [x9,zf1,B0,reduceIte,reduceEqDiff]
 refine yq (cs:=[.fn g1 caps1]) hS3 rfl rfl rfl (fun b5 h6 hS7=>?_)
 simp only [qd,qa,B0,reduceIte,reduceEqDiff]
 refine ji (Sep.m1 hS7) hW (by simp only [B0,reduceIte,reduceEqDiff]) (fun h9 hS10=>?_)
 refine ji hS10 hW (by simp only [B0,reduceIte,reduceEqDiff]) (fun h11 hS12=>?_)
 simp only [ja,qtk,qg,qe,yp,B0,reduceIte,reduceEqDiff]
 refine ki hS12 (fun b13 h14 hS15=>?_)
 simp only [qa,qu3,qg,qe,qfa,jh,B0,reduceIte,reduceEqDiff]
 refine z6 (us:=[.fn 67 [.ref [lst qb l_0] 0,.ref [.fn g1 caps1] 0,.ptr b13 0]]) rfl (cs':=[.fn 67 [.ref [lst qb l_0] 0,.ref [.fn g1 caps1] 0,
   .ptr b13 0]]) hS15 hW rfl rfl (nle rfl) rfl (fun h17 hS18=>?_)
 simp only [qa,qwa,qg,qe,qr,B0,reduceIte,reduceEqDiff]
 refine qj (v := .fn 67 [.ref [lst qb l_0] 0,.ref [.fn g1 caps1] 0,.ptr b13 0]) ((kq (Sep.bk _ _ _ hS18)).trans rfl) ?_
 simp only [k8,evp,B0,reduceIte,reduceEqDiff]
 refine j8 (n:=1) (f:=cI) ([] : List Int) hS18 rfl rfl (fun v19 c20 h21 hv22 hS23=>?_)
 obtain ⟨v25,hx26,hF27⟩:=qi hF
 simp only [qo,B0,reduceIte,reduceEqDiff]
 refine jz rfl (qfl hW k v19 c20 ([] : List Int) hv22 l_0 (gc1:=g1) (capsc1:=caps1) hm1 may_1 hf1 b13 v25 hx26 (Sep.m1 (Sep.m1 hS23))) ?_
 rintro _ h32 ⟨v28,c29,rfl,hv30,hS33⟩
 simp only [y7,qc,xe,xg,qd,qa,qs,B0,reduceIte,reduceEqDiff]
 have he:=qh hF27
 subst he
 simp only [z7,B0,reduceIte,reduceEqDiff]
 exact ⟨v28,c29,by first | trivial | rfl,hv30,(Sep.dc (Sep.m1 hS33))⟩
theorem qg3 {W:Nat→Bool}{h:Heap} (hW:∀ b,
  (geL h.length) b→W b=true) (a_0:Int) (b_1:Int) (cap_0:List Call) (r:Bool) (hF:k6 a_0 b_1 cap_0=some r) : Ret E W 69 [.int .i64 a_0,.int .i64 b_1,
  .ref ((cL qb) cap_0) 0] h (fun v h'=>cut h.length h' E.sz false 9 v=some (.bool r)):=by
 refine Ret.of (fn:=x69) rfl (Run.of ?_)
 unfold k6 at hF
 have zf0:qq [.int .i64 a_0,.int .i64 b_1,.ref ((cL qb) cap_0) 0] 0 = .int .i64 a_0:=rfl
 have zf1:qq [.int .i64 a_0,.int .i64 b_1,.ref ((cL qb) cap_0) 0] 1 = .int .i64 b_1:=rfl
 have zf2:qq [.int .i64 a_0,.int .i64 b_1,.ref ((cL qb) cap_0) 0] 2 = .ref ((cL qb) cap_0) 0:=rfl
 generalize qq [.int .i64 a_0,.int .i64 b_1,.ref ((cL qb) cap_0) 0]=fr0 at zf0 zf1 zf2 ⊢
 have hS:Sep h (geL h.length) []:=Sep.nil h
 simp only [x69,qg,qe,qd,qa,qwi,yo,zf2,j0,B0,reduceIte,reduceEqDiff]
 refine zd (v:=lst qb cap_0) rfl ?_
 obtain ⟨x1,hx2,hF3⟩:=qi hF
 simp only [zf1,k7,zc,ue,B0,reduceIte,reduceEqDiff]
 refine zd (v := .ref (qb x1) 0) (xx hx2 rfl) ?_
 simp only [xu,zc,Nat.reduceAdd,Nat.zero_add,Nat.add_zero,zg,j0,B0,reduceIte,reduceEqDiff]
 refine zd (v := .int .i64 x1.End) rfl ?_
 simp only [zf2,j0,B0,reduceIte,reduceEqDiff]
 refine zd (v:=lst qb cap_0) rfl ?_
 obtain ⟨x4,hx5,hF6⟩:=qi hF3
 simp only [zf0,k7,zc,ue,B0,reduceIte,reduceEqDiff]
 refine zd (v := .ref (qb x4) 0) (xx hx5 rfl) ?_
 simp only [xu,zc,Nat.reduceAdd,Nat.zero_add,Nat.add_zero,zg,j0,B0,reduceIte,reduceEqDiff]
 refine zd (v := .int .i64 x4.Begin) rfl ?_
 simp only [qbf,zc,ut,k7,jx,qs,B0,reduceIte,reduceEqDiff]
 have he:=qh hF6
 subst he
 simp only [q9,B0,reduceIte,reduceEqDiff]
 exact rfl
theorem qh9 {W:Nat→Bool}{h:Heap} (hW:∀ b,
  h.length≤b→W b=true) (l_0:List Call) : Ret E W 51 [lst qb l_0] h (fun v h'=>cut h.length h' E.sz true 9 v=some (.fn 69 [.ref [lst qb l_0] 0])):=by
 refine Ret.of (fn:=x51) rfl (Run.of ?_)
 have zf0:qq [lst qb l_0] 0=lst qb l_0:=rfl
 generalize qq [lst qb l_0]=fr0 at zf0 ⊢
 have hS:Sep h (geL h.length) []:=Sep.nil h
 simp only [x51,qg,qe,x9,zf0,B0,reduceIte,reduceEqDiff]
 refine yq (cs:=[lst qb l_0]) hS rfl rfl rfl (fun b1 h2 hS3=>?_)
 simp only [qd,qa,B0,reduceIte,reduceEqDiff]
 refine ji hS3 hW (by simp only [B0,reduceIte,reduceEqDiff]) (fun h5 hS6=>?_)
 simp only [ja,qg,qe,qfa,qd,qa,qs,B0,reduceIte,reduceEqDiff]
 simp only [q9,B0,reduceIte,reduceEqDiff]
 exact (qyl (ql (qql (ql (qxj (fun _=>rfl)) zf)) zf))
theorem qgv {W:Nat→Bool}{h:Heap} (hW:∀ b,
  (geL h.length) b→W b=true) (k:Nat) (l_0:List Call) (r:(List Int) × Bool) (hF:qav k l_0=some r) : Ret E W 23 [lst qb l_0] h
  (fun v h'=>∃ rv0 rc0,v = .tup [rv0,.bool r.2]∧SlF cI 1 3 rv0 r.1 rc0∧Sep h' (geL h.length) (rc0++([]))):=by
 refine Ret.of (fn:=x23) rfl (Run.of ?_)
 unfold qav at hF
 have zf0:qq [lst qb l_0] 0=lst qb l_0:=rfl
 generalize qq [lst qb l_0]=fr0 at zf0 ⊢
 have hS:Sep h (geL h.length) []:=Sep.nil h
 obtain ⟨v1,hx2,hF3⟩:=qi hF
 simp only [x23,qg,qe,qd,qa,qq0,zf0,qo,B0,reduceIte,reduceEqDiff]
 refine zp rfl (ql zt zf) (xj (fun b hb=>decide_eq_true hb) l_0 v1 hx2) ?_
 simp only [jc,qc,kt,qa,qsq,qx,B0,reduceIte,reduceEqDiff]
 refine qt (t:=(!v1)) (fun hc4=>?_) (fun hc4=>?_)
 ·rw [iteT hc4] at hF3
  simp only [qg,qe,qd,qa,qs,B0,reduceIte,reduceEqDiff]
  have he:=qh hF3
  subst he
  simp only [z7,B0,reduceIte,reduceEqDiff]
  exact ⟨.nil,[],by first | trivial | rfl,SlF.nil,(hS:Sep _ (geL h.length) ([]))⟩
 rw [iteF hc4] at hF3
 simp only [q8,qu0,qg,qe,zf0,qd,qo,B0,reduceIte,reduceEqDiff]
 refine qy6 rfl (qh9 (w3 hS hW) l_0) ?_
 obtain ⟨v5,hx6,hF7⟩:=qi hF3
 simp only [qo,B0,reduceIte,reduceEqDiff]
 refine qg0 rfl hS (ql zt (ql qfi zf)) (qgl (fun b hb=>decide_eq_true hb) k l_0 (g1:=69) (caps1:=[.ref [lst qb l_0] 0]) rfl
   (fun a0 a1=>k6 a0 a1 l_0) (fun W h hW a0 a1 r hr=>qg3 hW a0 a1 l_0 r hr) v5 hx6) ?_
 rintro _ h12 ⟨v8,c9,rfl,hv10,hS13⟩
 refine ⟨_,qex (qb7 (qcp (SlF.free1 hv10)) (qb7 rfl qg5)),hS13,(qdq (SlF.pf hv10 (fun _=>rfl)) qe3),fun h14 hS15=>?_⟩
 have hS16:Sep h14 (geL h.length) (c9++([])):=by simpa only [List.append_assoc,List.nil_append] using hS15
 simp only [y7,qc,xe,xg,qd,qa,qs,B0,reduceIte,reduceEqDiff]
 have he:=qh hF7
 subst he
 simp only [z7,B0,reduceIte,reduceEqDiff]
 exact ⟨v8,c9,by first | trivial | rfl,hv10,hS16⟩
theorem qc2 {W:Nat→Bool}{h:Heap} (hW:∀ b,
  (geL h.length) b→W b=true) (l_0:List Int) (n_1:Int) (r:Bool) (hF:ud l_0 n_1=some r) : Ret E W 66 [lst cI l_0,
  .int .i64 n_1] h (fun v h'=>cut h.length h' E.sz false 9 v=some (.bool r)):=by
 refine Ret.of (fn:=x66) rfl (Run.of ?_)
 unfold ud at hF
 have zf0:qq [lst cI l_0,.int .i64 n_1] 0=lst cI l_0:=rfl
 have zf1:qq [lst cI l_0,.int .i64 n_1] 1 = .int .i64 n_1:=rfl
 generalize qq [lst cI l_0,.int .i64 n_1]=fr0 at zf0 zf1 ⊢
 have hS:Sep h (geL h.length) []:=Sep.nil h
 simp only [x66,qg,qe,qd,qa,qs4,zf0,zl,qc,zn,B0,reduceIte,reduceEqDiff]
 obtain ⟨oc3,hX5,hk6⟩:=jd hF
 simp only [que]
 refine jq (σ:=Unit) l_0 (fun i1 x2 _=>qal n_1 i1 x2 ) (fun s fr' h'=>fr' 1 = .int .i64 n_1∧fr' 7=lst cI l_0∧Sep h' (geL h.length) ([])) hX5 ⟨zf1,
   rfl,hS⟩ (by simp only [B0,reduceIte,reduceEqDiff]) (by simp only [B0,reduceIte,
   reduceEqDiff]) (fun _ _ _ h=>h) rfl rfl (fun _ _ _ _ h=>h) (fun _ _ _ _ h=>h) (fun _ _ _ _ h=>h) (by decide) ?_ ?_
 ·rintro i1 x2 _ fr15 h16 hx20 ⟨f18,f19,hS17⟩ f21 f22 oc4 hF7 hr8 Q9 hN10 hB14 hK11 hR12 hE13
  unfold qal at hF7
  simp only [qu4,qg,qe,f19,f21,je,B0,reduceIte,reduceEqDiff]
  refine qj (v := .ref (cI x2) 0) (jp hx20 rfl) ?_
  simp only [qr,B0,reduceIte,reduceEqDiff]
  refine qj (v := .int .i64 x2) rfl ?_
  simp only [qd,qa,qvf,qg,qe,f18,qv,qc,qb2,qx,B0,reduceIte,reduceEqDiff]
  refine qt (t:=(decide (x2=n_1))) (fun hc23=>?_) (fun hc23=>?_)
  ·rw [iteT hc23] at hF7
   simp only [qg,qe,qd,qa,qs,B0,reduceIte,reduceEqDiff]
   have e24:=qh hF7
   subst e24
   have ho25:=hr8 _ rfl
   have hk26:=hk6
   rw [ho25] at hk26
   dsimp only [jnO] at hk26
   apply hR12
   have he:=qh hk26
   subst he
   simp only [q9,B0,reduceIte,reduceEqDiff]
   exact rfl
  rw [iteF hc23] at hF7
  simp only [q8,qk,B0,reduceIte,reduceEqDiff]
  have e27:=qh hF7
  exact hN10 _ _ _ e27.symm ⟨f18,f19,hS17⟩ (f21) (f22)
 rintro _ fr29 h30 rfl ⟨f32,f33,hS31⟩
 dsimp only [jnO] at hk6
 unfold qek at hk6
 simp only [qg,qe,qd,qa,qs,B0,reduceIte,reduceEqDiff]
 have he:=qh hk6
 subst he
 simp only [q9,B0,reduceIte,reduceEqDiff]
 exact rfl
theorem qdg {W:Nat→Bool}{h:Heap} (hW:∀ b,
  (geL h.length) b→W b=true) (n_0:Int) (order_1:List Int) (r:Bool) (hF:wc n_0 order_1=some r) : Ret E W 52 [.int .i64 n_0,
  lst cI order_1] h (fun v h'=>cut h.length h' E.sz false 9 v=some (.bool r)):=by
 refine Ret.of (fn:=x52) rfl (Run.of ?_)
 unfold wc at hF
 have zf0:qq [.int .i64 n_0,lst cI order_1] 0 = .int .i64 n_0:=rfl
 have zf1:qq [.int .i64 n_0,lst cI order_1] 1=lst cI order_1:=rfl
 generalize qq [.int .i64 n_0,lst cI order_1]=fr0 at zf0 zf1 ⊢
 have hS:Sep h (geL h.length) []:=Sep.nil h
 simp only [x52,qg,qe,qd,qa,qs0,zf1,zl,qc,zn,B0,reduceIte,reduceEqDiff]
 obtain ⟨oc3,hX5,hk6⟩:=jd hF
 simp only [qr7]
 refine jq (σ:=Unit) order_1 (fun i1 x2 _=>uj n_0 order_1 i1 x2 )
   (fun s fr' h'=>fr' 0 = .int .i64 n_0∧fr' 1=lst cI order_1∧fr' 7=lst cI order_1∧Sep h' (geL h.length) ([])) hX5 ⟨zf0,zf1,rfl,hS⟩ (by simp only [B0,reduceIte,
   reduceEqDiff]) (by simp only [B0,reduceIte,reduceEqDiff]) (fun _ _ _ h=>h) rfl rfl (fun _ _ _ _ h=>h) (fun _ _ _ _ h=>h) (fun _ _ _ _ h=>h) (by decide) ?_ ?_
 ·rintro i1 x2 _ fr15 h16 hx21 ⟨f18,f19,f20,hS17⟩ f22 f23 oc4 hF7 hr8 Q9 hN10 hB14 hK11 hR12 hE13
  unfold uj at hF7
  simp only [qvr,qg,qe,f22,qd,f20,je,B0,reduceIte,reduceEqDiff]
  refine qj (v := .ref (cI x2) 0) (jp hx21 rfl) ?_
  simp only [qr,B0,reduceIte,reduceEqDiff]
  refine qj (v := .int .i64 x2) rfl ?_
  simp only [qd,qa,qwg,qg,qe,qv,qc,qdn,B0,reduceIte,reduceEqDiff]
  refine zu 4 (fun fr' h'=>Sep h' (geL h.length) ([])∧fr' 20 = .bool ((decide (x2<0))||(decide
    (n_0≤x2)))∧fr' 0 = .int .i64 n_0∧fr' 1=lst cI order_1∧fr' 5 = .int .i64 (i1:Int)∧fr' 6 = .int .i64 x2∧fr' 7=lst cI order_1∧fr' 8 = .int .i64
    (List.length order_1:Int)∧fr' 9 = .int .i64 (i1:Int)) (fun Q24 hN25=>?_) ?_
  ·simp only [List.take_succ_cons,List.take_zero]
   simp only [qf (g:=16),B0,reduceIte,reduceEqDiff]
   refine qy (t:=(decide (x2<0))) (fun hg26=>?_) (fun hg26=>?_)
   ·simp only [hg26,qf (g:=16),z1,qn,qc,zj,qa,qk,B0,reduceIte,reduceEqDiff]
    exact hN25 _ _ ⟨hS17,by rw [orT hg26]; simp only [B0,reduceIte,reduceEqDiff],f18,f19,rfl,rfl,f20,f23,f22⟩
   ·simp only [hg26,qf (g:=16),qw,qd,f18,qv,qc,qhm,qn,zi,qa,qk,B0,reduceIte,reduceEqDiff]
    exact hN25 _ _ ⟨hS17,by rw [orF hg26]; simp only [B0,reduceIte,reduceEqDiff],f18,f19,rfl,rfl,f20,f23,f22⟩
  rintro fr27 h36 ⟨hS37,f28,f29,f30,f31,f32,f33,f34,f35⟩
  simp only [List.drop_succ_cons,List.drop_zero]
  simp only [f28,qd,B0,reduceIte,reduceEqDiff]
  obtain ⟨v41,hx42,hF43⟩:=qi hF7
  refine zu 6 (fun fr' h'=>Sep h' (geL h.length) ([])∧fr' 27 = .bool v41∧fr' 0 = .int .i64 n_0∧fr' 1=lst cI order_1∧fr' 7=lst cI order_1∧fr' 8 = .int .i64
    (List.length order_1:Int)∧fr' 9 = .int .i64 (i1:Int)) (fun Q38 hN39=>?_) ?_
  ·simp only [List.take_succ_cons,List.take_zero]
   simp only [qf (g:=21),B0,reduceIte,reduceEqDiff]
   refine qy (t:=((decide (x2<0))||(decide (n_0≤x2)))) (fun hg40=>?_) (fun hg40=>?_)
   ·rw [iteT hg40] at hx42
    simp only [hg40,qf (g:=21),z1,qn,qc,zj,qa,qk,B0,reduceIte,reduceEqDiff]
    have e44:=qh hx42
    exact hN39 _ _ ⟨hS37,by rw [←e44]; simp only [B0,reduceIte,reduceEqDiff],f29,f30,f33,f34,f35⟩
   ·rw [iteF hg40] at hx42
    obtain ⟨l45,hx46,hF47⟩:=qi hx42
    simp only [hg40,qf (g:=21),qw,f30,qd,f31,qa5,Option.map_some,Option.map_none,B0,reduceIte,reduceEqDiff]
    refine qj (qak hx46 (fun _=>rfl)) ?_
    obtain ⟨v48,hx49,hF50⟩:=qi hF47
    simp only [hg40,qf (g:=21),qw,f32,qd,qo,B0,reduceIte,reduceEqDiff]
    refine zp rfl (ql zt (ql qp zf)) (qc2 (fun b hb=>decide_eq_true hb) l45 x2 v48 hx49) ?_
    simp only [hg40,qn,qc,zi,qa,qk,B0,reduceIte,reduceEqDiff]
    have e51:=qh hF50
    exact hN39 _ _ ⟨hS37,by rw [←e51]; simp only [B0,reduceIte,reduceEqDiff],f29,f30,f33,f34,f35⟩
  rintro fr52 h59 ⟨hS60,f53,f54,f55,f56,f57,f58⟩
  simp only [List.drop_succ_cons,List.drop_zero]
  simp only [qa,f53,qx,B0,reduceIte,reduceEqDiff]
  refine qt (t:=v41) (fun hc61=>?_) (fun hc61=>?_)
  ·rw [iteT hc61] at hF43
   simp only [qg,qe,qd,qa,qs,B0,reduceIte,reduceEqDiff]
   have e62:=qh hF43
   subst e62
   have ho63:=hr8 _ rfl
   have hk64:=hk6
   rw [ho63] at hk64
   dsimp only [jnO] at hk64
   apply hR12
   have he:=qh hk64
   subst he
   simp only [q9,B0,reduceIte,reduceEqDiff]
   exact rfl
  rw [iteF hc61] at hF43
  simp only [q8,qk,B0,reduceIte,reduceEqDiff]
  have e65:=qh hF43
  exact hN10 _ _ _ e65.symm ⟨f54,f55,f56,hS60⟩ (f58) (f57)
 rintro _ fr67 h68 rfl ⟨f70,f71,f72,hS69⟩
 dsimp only [jnO] at hk6
 unfold qay at hk6
 simp only [qrx,qg,qe,f71,qd,zl,qc,zn,f70,qv,qb2,qa,qs,B0,reduceIte,reduceEqDiff]
 have he:=qh hk6
 subst he
 simp only [q9,B0,reduceIte,reduceEqDiff]
 exact rfl
theorem qc1 {W:Nat→Bool}{h:Heap} (hW:∀ b,
  (geL h.length) b→W b=true) (a_0:Call) (b_1:Call) (clients_2:Bool) (r:Bool)
  (hF:wh a_0 b_1 clients_2=some r) : Ret E W 53 [.agg [.int .i64 a_0.Client,.int .i64 a_0.Object,.bool a_0.Write,.int .i64 a_0.Value,.int .i64 a_0.Begin,
  .int .i64 a_0.End],.agg [.int .i64 b_1.Client,.int .i64 b_1.Object,.bool b_1.Write,.int .i64 b_1.Value,.int .i64 b_1.Begin,.int .i64 b_1.End],
  .bool clients_2] h (fun v h'=>cut h.length h' E.sz false 9 v=some (.bool r)):=by
 refine Ret.of (fn:=x53) rfl (Run.of ?_)
 unfold wh at hF
 have zf0:qq [.agg [.int .i64 a_0.Client,.int .i64 a_0.Object,.bool a_0.Write,.int .i64 a_0.Value,.int .i64 a_0.Begin,.int .i64 a_0.End],.agg [.int .i64 b_1.Client,
   .int .i64 b_1.Object,.bool b_1.Write,.int .i64 b_1.Value,.int .i64 b_1.Begin,.int .i64 b_1.End],.bool clients_2] 0 = .agg [.int .i64 a_0.Client,.int .i64 a_0.Object,
   .bool a_0.Write,.int .i64 a_0.Value,.int .i64 a_0.Begin,.int .i64 a_0.End]:=rfl
 have zf1:qq [.agg [.int .i64 a_0.Client,.int .i64 a_0.Object,.bool a_0.Write,.int .i64 a_0.Value,.int .i64 a_0.Begin,.int .i64 a_0.End],.agg [.int .i64 b_1.Client,
   .int .i64 b_1.Object,.bool b_1.Write,.int .i64 b_1.Value,.int .i64 b_1.Begin,.int .i64 b_1.End],.bool clients_2] 1 = .agg [.int .i64 b_1.Client,.int .i64 b_1.Object,
   .bool b_1.Write,.int .i64 b_1.Value,.int .i64 b_1.Begin,.int .i64 b_1.End]:=rfl
 have zf2:qq [.agg [.int .i64 a_0.Client,.int .i64 a_0.Object,.bool a_0.Write,.int .i64 a_0.Value,.int .i64 a_0.Begin,.int .i64 a_0.End],.agg [.int .i64 b_1.Client,
   .int .i64 b_1.Object,.bool b_1.Write,.int .i64 b_1.Value,.int .i64 b_1.Begin,.int .i64 b_1.End],.bool clients_2] 2 = .bool clients_2:=rfl
 generalize qq [.agg [.int .i64 a_0.Client,.int .i64 a_0.Object,.bool a_0.Write,.int .i64 a_0.Value,.int .i64 a_0.Begin,.int .i64 a_0.End],.agg [.int .i64 b_1.Client,
   .int .i64 b_1.Object,.bool b_1.Write,.int .i64 b_1.Value,.int .i64 b_1.Begin,.int .i64 b_1.End],.bool clients_2]=fr0 at zf0 zf1 zf2 ⊢
 have hS:Sep h (geL h.length) []:=Sep.nil h
 simp only [x53,qg,qe,x9,zf0,B0,reduceIte,reduceEqDiff]
 refine yq (cs:=[.int .i64 a_0.Client,.int .i64 a_0.Object,.bool a_0.Write,.int .i64 a_0.Value,.int .i64 a_0.Begin,
   .int .i64 a_0.End]) hS rfl rfl rfl (fun b1 h2 hS3=>?_)
 simp only [x9,zf1,B0,reduceIte,reduceEqDiff]
 refine yq (cs:=[.int .i64 b_1.Client,.int .i64 b_1.Object,.bool b_1.Write,.int .i64 b_1.Value,.int .i64 b_1.Begin,
   .int .i64 b_1.End]) hS3 rfl rfl rfl (fun b5 h6 hS7=>?_)
 simp only [qd,qa,B0,reduceIte,reduceEqDiff]
 refine ji (Sep.m1 hS7) hW (by simp only [B0,reduceIte,reduceEqDiff]) (fun h9 hS10=>?_)
 refine ji hS10 hW (by simp only [B0,reduceIte,reduceEqDiff]) (fun h11 hS12=>?_)
 simp only [ja,qud,qg,qe,zf2,qd,qa,qub,qx,B0,reduceIte,reduceEqDiff]
 refine qt (t:=clients_2) (fun hc13=>?_) (fun hc13=>?_)
 ·rw [iteT hc13] at hF
  simp only [qrp,qg,qe,zb,qc,Nat.reduceAdd,Nat.zero_add,Nat.add_zero,zg,qr,B0,reduceIte,reduceEqDiff]
  refine qj (v := .int .i64 a_0.Client) rfl ?_
  simp only [zb,qc,Nat.reduceAdd,Nat.zero_add,Nat.add_zero,zg,qr,B0,reduceIte,reduceEqDiff]
  refine qj (v := .int .i64 b_1.Client) rfl ?_
  simp only [qv,qc,qb2,qd,B0,reduceIte,reduceEqDiff]
  refine zu 6 (fun fr' h'=>Sep h' (geL h.length) ([])∧fr' 19 = .bool ((decide (a_0.Client=b_1.Client))&&(decide (a_0.Begin<b_1.Begin)))) (fun Q14 hN15=>?_) ?_
  ·simp only [List.take_succ_cons,List.take_zero]
   simp only [qf (g:=13),B0,reduceIte,reduceEqDiff]
   refine qy (t:=(decide (a_0.Client=b_1.Client))) (fun hg16=>?_) (fun hg16=>?_)
   ·simp only [hg16,qf (g:=13),qz,zb,qc,Nat.reduceAdd,Nat.zero_add,Nat.add_zero,zg,qr,B0,reduceIte,reduceEqDiff]
    refine qj (v := .int .i64 a_0.Begin) rfl ?_
    simp only [hg16,qf (g:=13),qz,zb,qc,Nat.reduceAdd,Nat.zero_add,Nat.add_zero,zg,qr,B0,reduceIte,reduceEqDiff]
    refine qj (v := .int .i64 b_1.Begin) rfl ?_
    simp only [hg16,qf (g:=13),qz,qv,qc,qdn,qn,zj,qa,qk,B0,reduceIte,reduceEqDiff]
    exact hN15 _ _ ⟨hS12,by rw [uu hg16]; simp only [B0,reduceIte,reduceEqDiff]⟩
   ·simp only [hg16,qf (g:=13),zv,qn,qc,zi,qa,qk,B0,reduceIte,reduceEqDiff]
    exact hN15 _ _ ⟨hS12,by rw [uv hg16]; simp only [B0,reduceIte,reduceEqDiff]⟩
  rintro fr17 h19 ⟨hS20,f18⟩
  simp only [List.drop_succ_cons,List.drop_zero]
  simp only [f18,qd,qa,qs,B0,reduceIte,reduceEqDiff]
  have he:=qh hF
  subst he
  simp only [q9,B0,reduceIte,reduceEqDiff]
  exact rfl
 rw [iteF hc13] at hF
 simp only [q8,qrb,qg,qe,zb,qc,Nat.reduceAdd,Nat.zero_add,Nat.add_zero,zg,qr,B0,reduceIte,reduceEqDiff]
 refine qj (v := .int .i64 a_0.End) rfl ?_
 simp only [zb,qc,Nat.reduceAdd,Nat.zero_add,Nat.add_zero,zg,qr,B0,reduceIte,reduceEqDiff]
 refine qj (v := .int .i64 b_1.Begin) rfl ?_
 simp only [qv,qc,qgg,qd,qa,qs,B0,reduceIte,reduceEqDiff]
 have he:=qh hF
 subst he
 simp only [q9,B0,reduceIte,reduceEqDiff]
 exact rfl
theorem qen {W:Nat→Bool}{h:Heap} (hW:∀ b,
  (geL h.length) b→W b=true) (l_0:List Call) (order_1:List Int) (r:Bool × Bool) (hF:xv l_0 order_1=some r) : Ret E W 27 [lst qb l_0,
  lst cI order_1] h (fun v h'=>cut h.length h' E.sz false 9 v=some (.tup [.bool r.1,.bool r.2])):=by
 refine Ret.of (fn:=x27) rfl (Run.of ?_)
 unfold xv at hF
 have zf0:qq [lst qb l_0,lst cI order_1] 0=lst qb l_0:=rfl
 have zf1:qq [lst qb l_0,lst cI order_1] 1=lst cI order_1:=rfl
 generalize qq [lst qb l_0,lst cI order_1]=fr0 at zf0 zf1 ⊢
 have hS:Sep h (geL h.length) []:=Sep.nil h
 obtain ⟨v1,hx2,hF3⟩:=qi hF
 simp only [x27,qg,qe,qd,qa,qn2,zf0,qo,B0,reduceIte,reduceEqDiff]
 refine zp rfl (ql zt zf) (uh (fun b hb=>decide_eq_true hb) l_0 v1 hx2) ?_
 simp only [jc,qc,kt,qd,B0,reduceIte,reduceEqDiff]
 obtain ⟨v7,hx8,hF9⟩:=qi hF3
 refine zu 6 (fun fr' h'=>Sep h' (geL h.length) ([])∧fr' 19 = .bool v7∧fr' 0=lst qb l_0∧fr' 1=lst cI order_1) (fun Q4 hN5=>?_) ?_
 ·simp only [List.take_succ_cons,List.take_zero]
  simp only [qf (g:=13),B0,reduceIte,reduceEqDiff]
  refine qy (t:=(!v1)) (fun hg6=>?_) (fun hg6=>?_)
  ·rw [iteT hg6] at hx8
   simp only [hg6,qf (g:=13),z1,qn,qc,zj,qa,qk,B0,reduceIte,reduceEqDiff]
   have e10:=qh hx8
   exact hN5 _ _ ⟨hS,by rw [←e10]; simp only [B0,reduceIte,reduceEqDiff],zf0,zf1⟩
  ·rw [iteF hg6] at hx8
   obtain ⟨v11,hx12,hF13⟩:=qi hx8
   simp only [hg6,qf (g:=13),qw,zf0,qd,zl,qc,zn,zf1,qo,B0,reduceIte,reduceEqDiff]
   refine zp rfl (ql qp (ql zt zf)) (qdg (fun b hb=>decide_eq_true hb) (List.length l_0:Int) order_1 v11 hx12) ?_
   simp only [hg6,qf (g:=13),qw,jc,qc,kt,qn,zi,qa,qk,B0,reduceIte,reduceEqDiff]
   have e14:=qh hF13
   exact hN5 _ _ ⟨hS,by rw [←e14]; simp only [B0,reduceIte,reduceEqDiff],zf0,zf1⟩
 rintro fr15 h19 ⟨hS20,f16,f17,f18⟩
 simp only [List.drop_succ_cons,List.drop_zero]
 simp only [qa,qvq,f16,qx,B0,reduceIte,reduceEqDiff]
 refine qt (t:=v7) (fun hc21=>?_) (fun hc21=>?_)
 ·rw [iteT hc21] at hF9
  simp only [qg,qe,qd,qa,qs,B0,reduceIte,reduceEqDiff]
  have he:=qh hF9
  subst he
  simp only [z7,B0,reduceIte,reduceEqDiff]
  exact y5 (ql rfl (ql rfl zf))
 rw [iteF hc21] at hF9
 simp only [q8,qnu,qg,qe,f18,qd,zl,qc,zn,qa,B0,reduceIte,reduceEqDiff]
 obtain ⟨oc24,hX26,hk27⟩:=jd hF9
 simp only [qon]
 refine jq (σ:=Unit) order_1 (fun i22 x23 _=>j7 l_0 order_1 i22 x23 )
   (fun s fr' h'=>fr' 0=lst qb l_0∧fr' 1=lst cI order_1∧fr' 20=lst cI order_1∧Sep h' (geL h.length) ([])) hX26 ⟨f17,f18,rfl,hS20⟩ (by simp only [B0,
   reduceIte,reduceEqDiff]) (by simp only [B0,reduceIte,
   reduceEqDiff]) (fun _ _ _ h=>h) rfl rfl (fun _ _ _ _ h=>h) (fun _ _ _ _ h=>h) (fun _ _ _ _ h=>h) (by decide) ?_ ?_
 ·rintro i22 x23 _ fr36 h37 hx42 ⟨f39,f40,f41,hS38⟩ f43 f44 oc25 hF28 hr29 Q30 hN31 hB35 hK32 hR33 hE34
  unfold j7 at hF28
  simp only [qsf,qg,qe,f43,qd,f41,je,B0,reduceIte,reduceEqDiff]
  refine qj (v := .ref (cI x23) 0) (jp hx42 rfl) ?_
  simp only [qr,B0,reduceIte,reduceEqDiff]
  refine qj (v := .int .i64 x23) rfl ?_
  obtain ⟨l45,hx46,hF47⟩:=qi hF28
  simp only [qd,qa,qt0,qg,qe,f40,qv,qc,xl,qa5,Option.map_some,Option.map_none,B0,reduceIte,reduceEqDiff]
  refine qj (qjc hx46 (fun _=>rfl)) ?_
  simp only [zl,qc,zn,qd,qa,B0,reduceIte,reduceEqDiff]
  obtain ⟨oc50,hX52,hk53⟩:=jd hF47
  simp only [qrj]
  refine jq (σ:=Unit) l45 (fun i48 x49 _=>yd l_0 x23 i48 x49 )
    (fun s fr' h'=>fr' 0=lst qb l_0∧fr' 1=lst cI order_1∧fr' 7 = .int .i64 x23∧fr' 20=lst cI order_1∧fr' 21 = .int .i64
    (List.length order_1:Int)∧fr' 22 = .int .i64 (i22:Int)∧fr' 30=lst cI l45∧Sep h' (geL h.length) ([])) hX52 ⟨f39,f40,rfl,f41,f44,f43,rfl,
    hS38⟩ (by simp only [B0,reduceIte,reduceEqDiff]) (by simp only [B0,reduceIte,
    reduceEqDiff]) (fun _ _ _ h=>h) rfl rfl (fun _ _ _ _ h=>h) (fun _ _ _ _ h=>h) (fun _ _ _ _ h=>h) (by decide) ?_ ?_
  ·rintro i48 x49 _ fr62 h63 hx72 ⟨f65,f66,f67,f68,f69,f70,f71,hS64⟩ f73 f74 oc51 hF54 hr55 Q56 hN57 hB61 hK58 hR59 hE60
   unfold yd at hF54
   simp only [qtq,qg,qe,f71,f73,je,B0,reduceIte,reduceEqDiff]
   refine qj (v := .ref (cI x49) 0) (jp hx72 rfl) ?_
   simp only [qr,B0,reduceIte,reduceEqDiff]
   refine qj (v := .int .i64 x49) rfl ?_
   obtain ⟨x75,hx76,hF77⟩:=qi hF54
   simp only [qd,qa,qtt,qg,yo,f65,k7,zc,ue,B0,reduceIte,reduceEqDiff]
   refine zd (v := .ref (qb x75) 0) (xx hx76 rfl) ?_
   simp only [j0,B0,reduceIte,reduceEqDiff]
   refine zd (v := .agg [.int .i64 x75.Client,.int .i64 x75.Object,.bool x75.Write,.int .i64 x75.Value,.int .i64 x75.Begin,.int .i64 x75.End]) rfl ?_
   obtain ⟨x78,hx79,hF80⟩:=qi hF77
   simp only [f65,k7,zc,f67,ue,B0,reduceIte,reduceEqDiff]
   refine zd (v := .ref (qb x78) 0) (xx hx79 rfl) ?_
   simp only [j0,B0,reduceIte,reduceEqDiff]
   refine zd (v := .agg [.int .i64 x78.Client,.int .i64 x78.Object,.bool x78.Write,.int .i64 x78.Value,.int .i64 x78.Begin,.int .i64 x78.End]) rfl ?_
   obtain ⟨v81,hx82,hF83⟩:=qi hF80
   simp only [qjw,B0,reduceIte,reduceEqDiff]
   refine qx3 rfl (ql (qaz (ql qp (ql qp (ql wz (ql qp (ql qp (ql qp zf))))))) (ql (qaz
     (ql qp (ql qp (ql wz (ql qp (ql qp (ql qp zf))))))) (ql wz zf))) (qc1
     (fun b hb=>decide_eq_true hb) x75 x78 false v81 hx82) ?_
   simp only [jx,qs5,qx,B0,reduceIte,reduceEqDiff]
   refine qt (t:=v81) (fun hc84=>?_) (fun hc84=>?_)
   ·rw [iteT hc84] at hF83
    simp only [qg,qe,qd,qa,qs,B0,reduceIte,reduceEqDiff]
    have e85:=qh hF83
    subst e85
    have ho86:=hr55 _ rfl
    have hk87:=hk53
    rw [ho86] at hk87
    dsimp only [jnO] at hk87
    apply hR59
    have e88:=qh hk87
    subst e88
    have ho89:=hr29 _ rfl
    have hk90:=hk27
    rw [ho89] at hk90
    dsimp only [jnO] at hk90
    apply hR33
    have he:=qh hk90
    subst he
    simp only [z7,B0,reduceIte,reduceEqDiff]
    exact y5 (ql rfl (ql rfl zf))
   rw [iteF hc84] at hF83
   simp only [q8,qk,B0,reduceIte,reduceEqDiff]
   have e91:=qh hF83
   exact hN57 _ _ _ e91.symm ⟨f65,f66,f67,f68,f69,f70,f71,hS64⟩ (f73) (f74)
  rintro _ fr93 h94 rfl ⟨f96,f97,f98,f99,f100,f101,f102,hS95⟩
  dsimp only [jnO] at hk53
  unfold qa8 at hk53
  simp only [qk,B0,reduceIte,reduceEqDiff]
  have e103:=qh hk53
  exact hN31 _ _ _ e103.symm ⟨f96,f97,f99,hS95⟩ (f101) (f100)
 rintro _ fr106 h107 rfl ⟨f109,f110,f111,hS108⟩
 dsimp only [jnO] at hk27
 unfold wg at hk27
 simp only [qg,qe,qd,qa,qs,B0,reduceIte,reduceEqDiff]
 have he:=qh hk27
 subst he
 simp only [z7,B0,reduceIte,reduceEqDiff]
 exact y5 (ql rfl (ql rfl zf))
theorem qfj {W:Nat→Bool}{h:Heap} (hW:∀ b,
  (geL h.length) b→W b=true) (list_0:List Int) (many_1:Int) (r:Bool) (hF:xd list_0 many_1=some r) : Ret E W 71 [lst cI list_0,
  .int .i64 many_1] h (fun v h'=>cut h.length h' E.sz false 9 v=some (.bool r)):=by
 refine Ret.of (fn:=x71) rfl (Run.of ?_)
 unfold xd at hF
 have zf0:qq [lst cI list_0,.int .i64 many_1] 0=lst cI list_0:=rfl
 have zf1:qq [lst cI list_0,.int .i64 many_1] 1 = .int .i64 many_1:=rfl
 generalize qq [lst cI list_0,.int .i64 many_1]=fr0 at zf0 zf1 ⊢
 have hS:Sep h (geL h.length) []:=Sep.nil h
 simp only [x71,qg,qe,qd,qa,qt1,zf0,zl,qc,zn,B0,reduceIte,reduceEqDiff]
 obtain ⟨oc3,hX5,hk6⟩:=jd hF
 simp only [qtn]
 refine jq (σ:=Unit) list_0 (fun i1 x2 _=>w6 list_0 many_1 i1 x2 )
   (fun s fr' h'=>fr' 0=lst cI list_0∧fr' 1 = .int .i64 many_1∧fr' 7=lst cI list_0∧Sep h' (geL h.length) ([])) hX5 ⟨zf0,zf1,rfl,hS⟩ (by simp only [B0,reduceIte,
   reduceEqDiff]) (by simp only [B0,reduceIte,reduceEqDiff]) (fun _ _ _ h=>h) rfl rfl (fun _ _ _ _ h=>h) (fun _ _ _ _ h=>h) (fun _ _ _ _ h=>h) (by decide) ?_ ?_
 ·rintro i1 x2 _ fr15 h16 hx21 ⟨f18,f19,f20,hS17⟩ f22 f23 oc4 hF7 hr8 Q9 hN10 hB14 hK11 hR12 hE13
  unfold w6 at hF7
  simp only [qvs,qg,qe,f22,qd,f20,je,B0,reduceIte,reduceEqDiff]
  refine qj (v := .ref (cI x2) 0) (jp hx21 rfl) ?_
  simp only [qr,B0,reduceIte,reduceEqDiff]
  refine qj (v := .int .i64 x2) rfl ?_
  simp only [qd,qa,qvo,qg,qe,f19,qv,qc,qhj,qo,B0,reduceIte,reduceEqDiff]
  refine zp rfl (ql qp (ql qp (ql qp zf))) (u4 (fun b hb=>decide_eq_true hb) x2 0 (IntKind.wrap .i64 (many_1 - 1)) _ rfl) ?_
  simp only [jc,qc,kt,qd,B0,reduceIte,reduceEqDiff]
  obtain ⟨v27,hx28,hF29⟩:=qi hF7
  refine zu 12 (fun fr' h'=>Sep h' (geL h.length) ([])∧fr' 31 = .bool v27∧fr' 0=lst cI list_0∧fr' 1 = .int .i64 many_1∧fr' 7=lst cI list_0∧fr' 8 = .int .i64
    (List.length list_0:Int)∧fr' 9 = .int .i64 (i1:Int)) (fun Q24 hN25=>?_) ?_
  ·simp only [List.take_succ_cons,List.take_zero]
   simp only [qf (g:=19),B0,reduceIte,reduceEqDiff]
   refine qy (t:=(!(ze x2 0 (IntKind.wrap .i64 (many_1 - 1))))) (fun hg26=>?_) (fun hg26=>?_)
   ·rw [iteT hg26] at hx28
    simp only [hg26,qf (g:=19),z1,qf (g:=22),qe0,qn,qc,zj,qa,qk,B0,reduceIte,reduceEqDiff]
    have e30:=qh hx28
    exact hN25 _ _ ⟨hS17,by rw [←e30]; simp only [B0,reduceIte,reduceEqDiff],f18,f19,f20,f23,f22⟩
   ·rw [iteF hg26] at hx28
    simp only [hg26,qf (g:=19),qw,qd,qv,qc,ut,B0,reduceIte,reduceEqDiff]
    obtain ⟨v34,hx35,hF36⟩:=qi hx28
    refine zu 8 (fun fr' h'=>Sep h' (geL h.length)
      ([])∧fr' 30 = .bool v34∧fr' 0=lst cI list_0∧fr' 1 = .int .i64 many_1∧fr' 7=lst cI list_0∧fr' 8 = .int .i64
      (List.length list_0:Int)∧fr' 9 = .int .i64 (i1:Int)∧fr' 19 = .bool (!(ze x2 0 (IntKind.wrap .i64 (many_1 - 1))))) (fun Q31 hN32=>?_) ?_
    ·simp only [List.take_succ_cons,List.take_zero]
     simp only [qf (g:=22),B0,reduceIte,reduceEqDiff]
     refine qy (t:=(decide ((0:Int)<(i1:Int)))) (fun hg33=>?_) (fun hg33=>?_)
     ·rw [iteT hg33] at hx35
      obtain ⟨x37,hx38,hF39⟩:=qi hx35
      simp only [hg33,qf (g:=22),qz,f18,qd,qv,qc,qhj,je,B0,reduceIte,reduceEqDiff]
      refine qj (v := .ref (cI x37) 0) (xx hx38 rfl) ?_
      simp only [hg33,qf (g:=22),qz,qr,B0,reduceIte,reduceEqDiff]
      refine qj (v := .int .i64 x37) rfl ?_
      simp only [hg33,qf (g:=22),qz,qd,qv,qc,qhm,hg26,qf (g:=19),qw,qn,zj,qa,qk,
        B0,reduceIte,reduceEqDiff]
      have e40:=qh hF39
      exact hN32 _ _ ⟨hS17,by rw [←e40]; simp only [B0,reduceIte,reduceEqDiff],f18,f19,f20,f23,f22,by simp only [hg26,B0,reduceIte,reduceEqDiff]⟩
     ·rw [iteF hg33] at hx35
      simp only [hg33,qf (g:=22),zv,hg26,qf (g:=19),qw,qn,qc,zi,qa,qk,B0,reduceIte,
        reduceEqDiff]
      have e41:=qh hx35
      exact hN32 _ _ ⟨hS17,by rw [←e41]; simp only [B0,reduceIte,reduceEqDiff],f18,f19,f20,f23,f22,by simp only [hg26,B0,reduceIte,reduceEqDiff]⟩
    rintro fr42 h50 ⟨hS51,f43,f44,f45,f46,f47,f48,f49⟩
    simp only [List.drop_succ_cons,List.drop_zero]
    simp only [f49,hg26,qn,qc,zi,f43,qa,qk,B0,reduceIte,reduceEqDiff]
    have e52:=qh hF36
    exact hN25 _ _ ⟨hS51,by rw [←e52]; simp only [B0,reduceIte,reduceEqDiff],f44,f45,f46,f47,f48⟩
  rintro fr53 h60 ⟨hS61,f54,f55,f56,f57,f58,f59⟩
  simp only [List.drop_succ_cons,List.drop_zero]
  simp only [qa,f54,qx,B0,reduceIte,reduceEqDiff]
  refine qt (t:=v27) (fun hc62=>?_) (fun hc62=>?_)
  ·rw [iteT hc62] at hF29
   simp only [qg,qe,qd,qa,qs,B0,reduceIte,reduceEqDiff]
   have e63:=qh hF29
   subst e63
   have ho64:=hr8 _ rfl
   have hk65:=hk6
   rw [ho64] at hk65
   dsimp only [jnO] at hk65
   apply hR12
   have he:=qh hk65
   subst he
   simp only [q9,B0,reduceIte,reduceEqDiff]
   exact rfl
  rw [iteF hc62] at hF29
  simp only [q8,qk,B0,reduceIte,reduceEqDiff]
  have e66:=qh hF29
  exact hN10 _ _ _ e66.symm ⟨f55,f56,f57,hS61⟩ (f59) (f58)
 rintro _ fr68 h69 rfl ⟨f71,f72,f73,hS70⟩
 dsimp only [jnO] at hk6
 unfold qb9 at hk6
 simp only [qg,qe,qd,qa,qs,B0,reduceIte,reduceEqDiff]
 have he:=qh hk6
 subst he
 simp only [q9,B0,reduceIte,reduceEqDiff]
 exact rfl
theorem qd0 {W:Nat→Bool}{h:Heap} (hW:∀ b,
  (geL h.length) b→W b=true) (l_0:List Call) (order_1:List Int) (r:Bool) (hF:wq l_0 order_1=some r) : Ret E W 54 [lst qb l_0,
  lst cI order_1] h (fun v h'=>cut h.length h' E.sz false 9 v=some (.bool r)):=by
 refine Ret.of (fn:=x54) rfl (Run.of ?_)
 unfold wq at hF
 have zf0:qq [lst qb l_0,lst cI order_1] 0=lst qb l_0:=rfl
 have zf1:qq [lst qb l_0,lst cI order_1] 1=lst cI order_1:=rfl
 generalize qq [lst qb l_0,lst cI order_1]=fr0 at zf0 zf1 ⊢
 have hS:Sep h (geL h.length) []:=Sep.nil h
 simp only [x54,qg,qe,qd,qa,qv1,k8,evp,B0,reduceIte,reduceEqDiff]
 refine j8 (n:=1) (f:=cI) ([] : List Int) hS rfl rfl (fun v1 c2 h3 hv4 hS5=>?_)
 simp only [zf1,qd,ur,B0,reduceIte,reduceEqDiff]
 obtain ⟨l7,hx8,hF9⟩:=qi hF
 refine yx (f:=cI) hv4 hS5 hW (fun _=>rfl) (fun _=>rfl) (qf2 (fun _=>rfl)) hx8 (fun v10 c11 h12 hv13 hS14=>?_)
 obtain ⟨v16,hx17,hF18⟩:=qi hF9
 simp only [qd,qa,qsx,qg,qe,qo,B0,reduceIte,reduceEqDiff]
 refine jz rfl (qfo hW v10 c11 l7 hv13 v16 hx17 hS14) ?_
 rintro _ h21 ⟨c19,rfl,hv20,hS22⟩
 simp only [qa,qsm,qg,qe,zf1,qd,zl,qc,zn,zf0,qv,qb2,B0,reduceIte,reduceEqDiff]
 obtain ⟨v26,hx27,hF28⟩:=qi hF18
 refine zu 5 (fun fr' h'=>Sep h' (geL h.length) ([])∧fr' 21 = .bool v26) (fun Q23 hN24=>?_) ?_
 ·simp only [List.take_succ_cons,List.take_zero]
  simp only [qf (g:=16),B0,reduceIte,reduceEqDiff]
  refine qy (t:=(decide ((List.length order_1:Int)=(List.length l_0:Int)))) (fun hg25=>?_) (fun hg25=>?_)
  ·rw [iteT hg25] at hx27
   obtain ⟨v29,hx30,hF31⟩:=qi hx27
   simp only [hg25,qf (g:=16),qz,qd,zf0,zl,qc,zn,qo,B0,reduceIte,reduceEqDiff]
   refine zp rfl (ql (SlF.snap hv20 hS22 rfl (fun _=>rfl) (fun _=>rfl)) (ql qp zf)) (qfj (fun b hb=>decide_eq_true hb) v16
     (List.length l_0:Int) v29 hx30) ?_
   simp only [hg25,qn,qc,zj,qa,qk,B0,reduceIte,reduceEqDiff]
   have e32:=qh hF31
   exact hN24 _ _ ⟨(Sep.dc (hS22)),by rw [←e32]; simp only [B0,reduceIte,reduceEqDiff]⟩
  ·rw [iteF hg25] at hx27
   simp only [hg25,qf (g:=16),zv,qn,qc,zi,qa,qk,B0,reduceIte,reduceEqDiff]
   have e33:=qh hx27
   exact hN24 _ _ ⟨(Sep.dc (hS22)),by rw [←e33]; simp only [B0,reduceIte,reduceEqDiff]⟩
 rintro fr34 h36 ⟨hS37,f35⟩
 simp only [List.drop_succ_cons,List.drop_zero]
 simp only [f35,qd,qa,qs,B0,reduceIte,reduceEqDiff]
 have he:=qh hF28
 subst he
 simp only [q9,B0,reduceIte,reduceEqDiff]
 exact rfl
theorem qd3 {W:Nat→Bool}{h:Heap} (hW:∀ b,
  (geL h.length) b→W b=true) (a_0:Int) (b_1:Int) (cap_0:List Call) (r:Bool) (hF:ka a_0 b_1 cap_0=some r) : Ret E W 56 [.int .i64 a_0,
  .int .i64 b_1,.ref ((cL qb) cap_0) 0] h (fun v h'=>cut h.length h' E.sz false 9 v=some (.bool r)):=by
 refine Ret.of (fn:=x56) rfl (Run.of ?_)
 unfold ka at hF
 have zf0:qq [.int .i64 a_0,.int .i64 b_1,.ref ((cL qb) cap_0) 0] 0 = .int .i64 a_0:=rfl
 have zf1:qq [.int .i64 a_0,.int .i64 b_1,.ref ((cL qb) cap_0) 0] 1 = .int .i64 b_1:=rfl
 have zf2:qq [.int .i64 a_0,.int .i64 b_1,.ref ((cL qb) cap_0) 0] 2 = .ref ((cL qb) cap_0) 0:=rfl
 generalize qq [.int .i64 a_0,.int .i64 b_1,.ref ((cL qb) cap_0) 0]=fr0 at zf0 zf1 zf2 ⊢
 have hS:Sep h (geL h.length) []:=Sep.nil h
 simp only [x56,qg,qe,qd,qa,qr9,yo,zf2,j0,B0,reduceIte,reduceEqDiff]
 refine zd (v:=lst qb cap_0) rfl ?_
 obtain ⟨x1,hx2,hF3⟩:=qi hF
 simp only [zf1,k7,zc,ue,B0,reduceIte,reduceEqDiff]
 refine zd (v := .ref (qb x1) 0) (xx hx2 rfl) ?_
 simp only [xu,zc,Nat.reduceAdd,Nat.zero_add,Nat.add_zero,zg,j0,B0,reduceIte,reduceEqDiff]
 refine zd (v := .int .i64 x1.End) rfl ?_
 simp only [zf2,j0,B0,reduceIte,reduceEqDiff]
 refine zd (v:=lst qb cap_0) rfl ?_
 obtain ⟨x4,hx5,hF6⟩:=qi hF3
 simp only [zf0,k7,zc,ue,B0,reduceIte,reduceEqDiff]
 refine zd (v := .ref (qb x4) 0) (xx hx5 rfl) ?_
 simp only [xu,zc,Nat.reduceAdd,Nat.zero_add,Nat.add_zero,zg,j0,B0,reduceIte,reduceEqDiff]
 refine zd (v := .int .i64 x4.Begin) rfl ?_
 simp only [qbf,zc,ut,k7,jx,qs,B0,reduceIte,reduceEqDiff]
 have he:=qh hF6
 subst he
 simp only [q9,B0,reduceIte,reduceEqDiff]
 exact rfl
end Go.Proofs.Ytddkoiapboeemaa.X
namespace Go.Proofs.Ytddkoiapboeemaa.X
open Go
open Nat (reduceEqDiff)
theorem qem {W:Nat→Bool}{h:Heap} (hW:∀ b,
  (geL h.length) b→W b=true) (l_0:List Call) (order_1:List Int) (r:Bool × Bool) (hF:xw l_0 order_1=some r) : Ret E W 29 [lst qb l_0,
  lst cI order_1] h (fun v h'=>cut h.length h' E.sz false 9 v=some (.tup [.bool r.1,.bool r.2])):=by
 refine Ret.of (fn:=x29) rfl (Run.of ?_)
 unfold xw at hF
 have zf0:qq [lst qb l_0,lst cI order_1] 0=lst qb l_0:=rfl
 have zf1:qq [lst qb l_0,lst cI order_1] 1=lst cI order_1:=rfl
 generalize qq [lst qb l_0,lst cI order_1]=fr0 at zf0 zf1 ⊢
 have hS:Sep h (geL h.length) []:=Sep.nil h
 simp only [x29,qg,qe,x9,zf0,B0,reduceIte,reduceEqDiff]
 refine yq (cs:=[lst qb l_0]) hS rfl rfl rfl (fun b1 h2 hS3=>?_)
 simp only [qd,qa,B0,reduceIte,reduceEqDiff]
 refine ji hS3 hW (by simp only [B0,reduceIte,reduceEqDiff]) (fun h5 hS6=>?_)
 simp only [ja,qvk,qg,qe,qr,B0,reduceIte,reduceEqDiff]
 refine qj (v:=lst qb l_0) rfl ?_
 obtain ⟨v7,hx8,hF9⟩:=qi hF
 simp only [qo,B0,reduceIte,reduceEqDiff]
 refine zp rfl (ql zt zf) (xj (fun b hb=>decide_eq_true hb) l_0 v7 hx8) ?_
 simp only [jc,qc,kt,qd,B0,reduceIte,reduceEqDiff]
 obtain ⟨v13,hx14,hF15⟩:=qi hF9
 refine zu 5 (fun fr' h'=>Sep h' (geL h.length) ([])∧fr' 14 = .bool v13∧fr' 1=lst cI order_1∧fr' 2 = .ref [lst qb l_0] 0) (fun Q10 hN11=>?_) ?_
 ·simp only [List.take_succ_cons,List.take_zero]
  simp only [qf (g:=9),B0,reduceIte,reduceEqDiff]
  refine qy (t:=(!v7)) (fun hg12=>?_) (fun hg12=>?_)
  ·rw [iteT hg12] at hx14
   simp only [hg12,qf (g:=9),z1,qn,qc,zj,qa,qk,B0,reduceIte,reduceEqDiff]
   have e16:=qh hx14
   exact hN11 _ _ ⟨hS6,by rw [←e16]; simp only [B0,reduceIte,reduceEqDiff],zf1,rfl⟩
  ·rw [iteF hg12] at hx14
   simp only [hg12,qf (g:=9),qw,qr,B0,reduceIte,reduceEqDiff]
   refine qj (v:=lst qb l_0) rfl ?_
   obtain ⟨v17,hx18,hF19⟩:=qi hx14
   simp only [hg12,qf (g:=9),qw,zf1,qd,qo,B0,reduceIte,reduceEqDiff]
   refine zp rfl (ql zt (ql zt zf)) (qd0 (fun b hb=>decide_eq_true hb) l_0 order_1 v17 hx18) ?_
   simp only [hg12,qf (g:=9),qw,jc,qc,kt,qn,zi,qa,qk,B0,reduceIte,reduceEqDiff]
   have e20:=qh hF19
   exact hN11 _ _ ⟨hS6,by rw [←e20]; simp only [B0,reduceIte,reduceEqDiff],zf1,rfl⟩
 rintro fr21 h25 ⟨hS26,f22,f23,f24⟩
 simp only [List.drop_succ_cons,List.drop_zero]
 simp only [qa,qvl,f22,qx,B0,reduceIte,reduceEqDiff]
 refine qt (t:=v13) (fun hc27=>?_) (fun hc27=>?_)
 ·rw [iteT hc27] at hF15
  simp only [qg,qe,qd,qa,qs,B0,reduceIte,reduceEqDiff]
  have he:=qh hF15
  subst he
  simp only [z7,B0,reduceIte,reduceEqDiff]
  exact y5 (ql rfl (ql rfl zf))
 rw [iteF hc27] at hF15
 obtain ⟨v28,hx29,hF30⟩:=qi hF15
 simp only [q8,qwd,qg,qe,f23,qd,qfa,f24,qo,B0,reduceIte,reduceEqDiff]
 refine zp rfl (ql zt (ql qfi zf)) (qdt (fun b hb=>decide_eq_true hb) order_1 (g1:=56) (caps1:=[.ref [lst qb l_0] 0]) rfl
   (fun a0 a1=>ka a0 a1 l_0) (fun W h hW a0 a1 r hr=>qd3 hW a0 a1 l_0 r hr) v28 hx29) ?_
 simp only [qd,qa,qs,B0,reduceIte,reduceEqDiff]
 have he:=qh hF30
 subst he
 simp only [z7,B0,reduceIte,reduceEqDiff]
 exact y5 (ql rfl (ql rfl zf))
theorem qdb {W:Nat→Bool}{h:Heap} (hW:∀ b,
  (geL h.length) b→W b=true) (l_0:List Call) (order_1:List Int) (r:Bool) (hF:jl l_0 order_1=some r) : Ret E W 57 [lst qb l_0,
  lst cI order_1] h (fun v h'=>cut h.length h' E.sz false 9 v=some (.bool r)):=by
 refine Ret.of (fn:=x57) rfl (Run.of ?_)
 unfold jl at hF
 have zf0:qq [lst qb l_0,lst cI order_1] 0=lst qb l_0:=rfl
 have zf1:qq [lst qb l_0,lst cI order_1] 1=lst cI order_1:=rfl
 generalize qq [lst qb l_0,lst cI order_1]=fr0 at zf0 zf1 ⊢
 have hS:Sep h (geL h.length) []:=Sep.nil h
 obtain ⟨l1,hx2,hF3⟩:=qi hF
 simp only [x57,qg,qe,qd,qa,qog,qhe,B0,reduceIte,reduceEqDiff]
 refine qeu (f:=cI) (z:=(0:Int)) hS hx2 rfl (fun v4 c5 h6 hv7 hS8=>?_)
 simp only [qd,qa,qt7,qg,qe,zf1,zl,qc,zn,B0,reduceIte,reduceEqDiff]
 obtain ⟨oc18,hX20,hk21⟩:=jd hF3
 simp only [qwf]
 refine jq (σ:=(List Int)) order_1 (fun i16 x17 s72=>jf l_0 i16 x17 s72) (fun s fr' h'=>∃ c14,
   fr' 0=lst qb l_0∧fr' 5=v4∧fr' 10=lst cI order_1∧SlF cI 1 3 v4 s c14∧Sep h' (geL h.length) (c14++([]))) hX20 ⟨c5,zf0,rfl,rfl,hv7,
   hS8⟩ (by simp only [B0,reduceIte,reduceEqDiff]) (by simp only [B0,reduceIte,
   reduceEqDiff]) (fun _ _ _ h=>h) rfl rfl (fun _ _ _ _ h=>h) (fun _ _ _ _ h=>h) (fun _ _ _ _ h=>h) (by decide) ?_ ?_
 ·rintro i16 x17 s13 fr30 h31 hx36 ⟨c14,f33,f34,f35,hv15,hS32⟩ f37 f38 oc19 hF22 hr23 Q24 hN25 hB29 hK26 hR27 hE28
  unfold jf at hF22
  simp only [qur,qg,qe,f35,f37,je,B0,reduceIte,reduceEqDiff]
  refine qj (v := .ref (cI x17) 0) (jp hx36 rfl) ?_
  simp only [qr,B0,reduceIte,reduceEqDiff]
  refine qj (v := .int .i64 x17) rfl ?_
  obtain ⟨x39,hx40,hF41⟩:=qi hF22
  simp only [qd,qa,qvu,qg,qe,f33,je,B0,reduceIte,reduceEqDiff]
  refine qj (v := .ref (qb x39) 0) (xx hx40 rfl) ?_
  simp only [qr,B0,reduceIte,reduceEqDiff]
  refine qj (v := .agg [.int .i64 x39.Client,.int .i64 x39.Object,.bool x39.Write,.int .i64 x39.Value,.int .i64 x39.Begin,.int .i64 x39.End]) rfl ?_
  simp only [yp,B0,reduceIte,reduceEqDiff]
  refine ki hS32 (fun b42 h43 hS44=>?_)
  simp only [jh,B0,reduceIte,reduceEqDiff]
  refine z6 (us:=[.int .i64 x39.Client,.int .i64 x39.Object,.bool x39.Write,.int .i64 x39.Value,.int .i64 x39.Begin,
    .int .i64 x39.End]) rfl (cs':=[.int .i64 x39.Client,.int .i64 x39.Object,.bool x39.Write,.int .i64 x39.Value,.int .i64 x39.Begin,
    .int .i64 x39.End]) hS44 hW rfl rfl (nle rfl) rfl (fun h46 hS47=>?_)
  simp only [qa,B0,reduceIte,reduceEqDiff]
  refine ji hS47 hW (by simp only [B0,reduceIte,reduceEqDiff]) (fun h48 hS49=>?_)
  simp only [ja,qu7,qg,qe,zb,qc,Nat.reduceAdd,Nat.zero_add,Nat.add_zero,zg,qr,B0,reduceIte,reduceEqDiff]
  refine qj (v := .bool x39.Write) rfl ?_
  simp only [qa,qvi,qx,B0,reduceIte,reduceEqDiff]
  refine qt (t:=x39.Write) (fun hc50=>?_) (fun hc50=>?_)
  ·rw [iteT hc50] at hF41
   simp only [qq5,qe,f34,qd,zb,qc,Nat.reduceAdd,Nat.zero_add,Nat.add_zero,zg,qr,B0,reduceIte,reduceEqDiff]
   refine qj (v := .int .i64 x39.Object) rfl ?_
   simp only [zb,qc,Nat.reduceAdd,Nat.zero_add,Nat.add_zero,zg,qr,B0,reduceIte,reduceEqDiff]
   refine qj (v := .int .i64 x39.Value) rfl ?_
   obtain ⟨x51,hx52,hF53⟩:=qi hF41
   simp only [je,B0,reduceIte,reduceEqDiff]
   obtain ⟨b54,hb55⟩:=SlF.isrow hv15 (wx hx52)
   refine qj (SlF.ia hv15 hb55 hx52) ?_
   simp only [jh,B0,reduceIte,reduceEqDiff]
   refine qbx (f:=cI) (x':=x39.Value) (o:=0) hv15 hS49 hW hb55 hx52 (fun _=>rfl) rfl rfl (nle rfl) rfl (fun c58 h56 hv59 hS57=>?_)
   have hx60:=qa3 (x':=x39.Value) hx52
   simp only [qa,qk,B0,reduceIte,reduceEqDiff]
   have e61:=qh hF53
   exact hN25 _ _ _ e61.symm ⟨c58,f33,f34,f35,hv59,hS57⟩ (f37) (f38)
  rw [iteF hc50] at hF41
  simp only [qvb,qg,yo,f34,k7,zc,xu,Nat.reduceAdd,Nat.zero_add,Nat.add_zero,zg,j0,B0,reduceIte,reduceEqDiff]
  refine zd (v := .int .i64 x39.Object) rfl ?_
  obtain ⟨x62,hx63,hF64⟩:=qi hF41
  simp only [ue,B0,reduceIte,reduceEqDiff]
  obtain ⟨b65,hb66⟩:=SlF.isrow hv15 (wx hx63)
  refine zd (SlF.ia hv15 hb66 hx63) ?_
  simp only [j0,B0,reduceIte,reduceEqDiff]
  refine zd (v := .int .i64 x62) ((SlF.ld (o:=0) hv15 hS49 hb66 hx63 (fun _=>rfl) (nle rfl)).trans rfl) ?_
  simp only [xu,zc,Nat.reduceAdd,Nat.zero_add,Nat.add_zero,zg,j0,B0,reduceIte,reduceEqDiff]
  refine zd (v := .int .i64 x39.Value) rfl ?_
  simp only [qbf,zc,qey,jx,qx,B0,reduceIte,reduceEqDiff]
  refine qt (t:=(decide (x62≠x39.Value))) (fun hc67=>?_) (fun hc67=>?_)
  ·rw [iteT hc67] at hF64
   simp only [qg,qe,qd,qa,qs,B0,reduceIte,reduceEqDiff]
   have e68:=qh hF64
   subst e68
   have ho69:=hr23 _ rfl
   have hk70:=hk21
   rw [ho69] at hk70
   dsimp only [jnO] at hk70
   apply hR27
   have he:=qh hk70
   subst he
   simp only [q9,B0,reduceIte,reduceEqDiff]
   exact rfl
  rw [iteF hc67] at hF64
  simp only [q8,qk,B0,reduceIte,reduceEqDiff]
  have e71:=qh hF64
  exact hN25 _ _ _ e71.symm ⟨c14,f33,f34,f35,hv15,hS49⟩ (f37) (f38)
 rintro s73 fr76 h77 rfl ⟨c74,f79,f80,f81,hv75,hS78⟩
 dsimp only [jnO] at hk21
 unfold qcu at hk21
 simp only [qg,qe,qd,qa,qs,B0,reduceIte,reduceEqDiff]
 have he:=qh hk21
 subst he
 simp only [q9,B0,reduceIte,reduceEqDiff]
 exact rfl
theorem qhr {W:Nat→Bool}{h:Heap} (hW:∀ b,
  (geL h.length) b→W b=true) (l_0:List Call) (order_1:List Int) (r:Bool × Bool) (hF:qbb l_0 order_1=some r) : Ret E W 30 [lst qb l_0,
  lst cI order_1] h (fun v h'=>cut h.length h' E.sz false 9 v=some (.tup [.bool r.1,.bool r.2])):=by
 refine Ret.of (fn:=x30) rfl (Run.of ?_)
 unfold qbb at hF
 have zf0:qq [lst qb l_0,lst cI order_1] 0=lst qb l_0:=rfl
 have zf1:qq [lst qb l_0,lst cI order_1] 1=lst cI order_1:=rfl
 generalize qq [lst qb l_0,lst cI order_1]=fr0 at zf0 zf1 ⊢
 have hS:Sep h (geL h.length) []:=Sep.nil h
 obtain ⟨v1,hx2,hF3⟩:=qi hF
 simp only [x30,qg,qe,qd,qa,qv9,zf0,qo,B0,reduceIte,reduceEqDiff]
 refine zp rfl (ql zt zf) (uh (fun b hb=>decide_eq_true hb) l_0 v1 hx2) ?_
 simp only [jc,qc,kt,qd,B0,reduceIte,reduceEqDiff]
 obtain ⟨v7,hx8,hF9⟩:=qi hF3
 refine zu 6 (fun fr' h'=>Sep h' (geL h.length) ([])∧fr' 15 = .bool v7∧fr' 0=lst qb l_0∧fr' 1=lst cI order_1) (fun Q4 hN5=>?_) ?_
 ·simp only [List.take_succ_cons,List.take_zero]
  simp only [qf (g:=9),B0,reduceIte,reduceEqDiff]
  refine qy (t:=(!v1)) (fun hg6=>?_) (fun hg6=>?_)
  ·rw [iteT hg6] at hx8
   simp only [hg6,qf (g:=9),z1,qn,qc,zj,qa,qk,B0,reduceIte,reduceEqDiff]
   have e10:=qh hx8
   exact hN5 _ _ ⟨hS,by rw [←e10]; simp only [B0,reduceIte,reduceEqDiff],zf0,zf1⟩
  ·rw [iteF hg6] at hx8
   obtain ⟨v11,hx12,hF13⟩:=qi hx8
   simp only [hg6,qf (g:=9),qw,zf0,qd,zl,qc,zn,zf1,qo,B0,reduceIte,reduceEqDiff]
   refine zp rfl (ql qp (ql zt zf)) (qdg (fun b hb=>decide_eq_true hb) (List.length l_0:Int) order_1 v11 hx12) ?_
   simp only [hg6,qf (g:=9),qw,jc,qc,kt,qn,zi,qa,qk,B0,reduceIte,reduceEqDiff]
   have e14:=qh hF13
   exact hN5 _ _ ⟨hS,by rw [←e14]; simp only [B0,reduceIte,reduceEqDiff],zf0,zf1⟩
 rintro fr15 h19 ⟨hS20,f16,f17,f18⟩
 simp only [List.drop_succ_cons,List.drop_zero]
 simp only [qa,qvz,f16,qx,B0,reduceIte,reduceEqDiff]
 refine qt (t:=v7) (fun hc21=>?_) (fun hc21=>?_)
 ·rw [iteT hc21] at hF9
  simp only [qg,qe,qd,qa,qs,B0,reduceIte,reduceEqDiff]
  have he:=qh hF9
  subst he
  simp only [z7,B0,reduceIte,reduceEqDiff]
  exact y5 (ql rfl (ql rfl zf))
 rw [iteF hc21] at hF9
 obtain ⟨v22,hx23,hF24⟩:=qi hF9
 simp only [q8,qrg,qg,qe,f17,qd,f18,qo,B0,reduceIte,reduceEqDiff]
 refine zp rfl (ql zt (ql zt zf)) (qdb (fun b hb=>decide_eq_true hb) l_0 order_1 v22 hx23) ?_
 simp only [qd,qa,qs,B0,reduceIte,reduceEqDiff]
 have he:=qh hF24
 subst he
 simp only [z7,B0,reduceIte,reduceEqDiff]
 exact y5 (ql rfl (ql rfl zf))
theorem qhb {W:Nat→Bool}{h:Heap} (hW:∀ b,
  (geL h.length) b→W b=true) (l_0:List Call) (order_1:List Int) (r:Bool × Bool) (hF:qbp l_0 order_1=some r) : Ret E W 31 [lst qb l_0,
  lst cI order_1] h (fun v h'=>cut h.length h' E.sz false 9 v=some (.tup [.bool r.1,.bool r.2])):=by
 refine Ret.of (fn:=x31) rfl (Run.of ?_)
 unfold qbp at hF
 have zf0:qq [lst qb l_0,lst cI order_1] 0=lst qb l_0:=rfl
 have zf1:qq [lst qb l_0,lst cI order_1] 1=lst cI order_1:=rfl
 generalize qq [lst qb l_0,lst cI order_1]=fr0 at zf0 zf1 ⊢
 have hS:Sep h (geL h.length) []:=Sep.nil h
 obtain ⟨v1,hx2,hF3⟩:=qi hF
 simp only [x31,qg,qe,qd,qa,quk,zf0,qo,B0,reduceIte,reduceEqDiff]
 refine zp rfl (ql zt zf) (xj (fun b hb=>decide_eq_true hb) l_0 v1 hx2) ?_
 simp only [jc,qc,kt,qd,B0,reduceIte,reduceEqDiff]
 obtain ⟨v7,hx8,hF9⟩:=qi hF3
 refine zu 5 (fun fr' h'=>Sep h' (geL h.length) ([])∧fr' 14 = .bool v7∧fr' 0=lst qb l_0∧fr' 1=lst cI order_1) (fun Q4 hN5=>?_) ?_
 ·simp only [List.take_succ_cons,List.take_zero]
  simp only [qf (g:=9),B0,reduceIte,reduceEqDiff]
  refine qy (t:=(!v1)) (fun hg6=>?_) (fun hg6=>?_)
  ·rw [iteT hg6] at hx8
   simp only [hg6,qf (g:=9),z1,qn,qc,zj,qa,qk,B0,reduceIte,reduceEqDiff]
   have e10:=qh hx8
   exact hN5 _ _ ⟨hS,by rw [←e10]; simp only [B0,reduceIte,reduceEqDiff],zf0,zf1⟩
  ·rw [iteF hg6] at hx8
   obtain ⟨v11,hx12,hF13⟩:=qi hx8
   simp only [hg6,qf (g:=9),qw,zf0,qd,zf1,qo,B0,reduceIte,reduceEqDiff]
   refine zp rfl (ql zt (ql zt zf)) (qd0 (fun b hb=>decide_eq_true hb) l_0 order_1 v11 hx12) ?_
   simp only [hg6,qf (g:=9),qw,jc,qc,kt,qn,zi,qa,qk,B0,reduceIte,reduceEqDiff]
   have e14:=qh hF13
   exact hN5 _ _ ⟨hS,by rw [←e14]; simp only [B0,reduceIte,reduceEqDiff],zf0,zf1⟩
 rintro fr15 h19 ⟨hS20,f16,f17,f18⟩
 simp only [List.drop_succ_cons,List.drop_zero]
 simp only [qa,quc,f16,qx,B0,reduceIte,reduceEqDiff]
 refine qt (t:=v7) (fun hc21=>?_) (fun hc21=>?_)
 ·rw [iteT hc21] at hF9
  simp only [qg,qe,qd,qa,qs,B0,reduceIte,reduceEqDiff]
  have he:=qh hF9
  subst he
  simp only [z7,B0,reduceIte,reduceEqDiff]
  exact y5 (ql rfl (ql rfl zf))
 rw [iteF hc21] at hF9
 obtain ⟨v22,hx23,hF24⟩:=qi hF9
 simp only [q8,qta,qg,qe,f17,qd,f18,qo,B0,reduceIte,reduceEqDiff]
 refine zp rfl (ql zt (ql zt zf)) (qd2 (fun b hb=>decide_eq_true hb) l_0 order_1 v22 hx23) ?_
 simp only [qd,qa,qs,B0,reduceIte,reduceEqDiff]
 have he:=qh hF24
 subst he
 simp only [z7,B0,reduceIte,reduceEqDiff]
 exact y5 (ql rfl (ql rfl zf))
theorem qfn {W:Nat→Bool}{h:Heap} (hW:∀ b,
  (geL h.length) b→W b=true) (l_0:List Call) (r:Int × Bool) (hF:xh l_0=some r) : Ret E W 33 [lst qb l_0] h
  (fun v h'=>cut h.length h' E.sz false 9 v=some (.tup [.int .i64 r.1,.bool r.2])):=by
 refine Ret.of (fn:=x33) rfl (Run.of ?_)
 unfold xh at hF
 have zf0:qq [lst qb l_0] 0=lst qb l_0:=rfl
 generalize qq [lst qb l_0]=fr0 at zf0 ⊢
 have hS:Sep h (geL h.length) []:=Sep.nil h
 obtain ⟨v1,hx2,hF3⟩:=qi hF
 simp only [x33,qg,qe,qd,qa,qlm,zf0,qo,B0,reduceIte,reduceEqDiff]
 refine zp rfl (ql zt zf) (xj (fun b hb=>decide_eq_true hb) l_0 v1 hx2) ?_
 simp only [jc,qc,kt,qa,qtw,qx,B0,reduceIte,reduceEqDiff]
 refine qt (t:=(!v1)) (fun hc4=>?_) (fun hc4=>?_)
 ·rw [iteT hc4] at hF3
  simp only [qg,qe,qd,qa,qs,B0,reduceIte,reduceEqDiff]
  have he:=qh hF3
  subst he
  simp only [z7,B0,reduceIte,reduceEqDiff]
  exact y5 (ql rfl (ql rfl zf))
 rw [iteF hc4] at hF3
 simp only [q8,qn3,qg,qe,qd,qa,qop,zf0,zl,qc,zn,B0,reduceIte,reduceEqDiff]
 obtain ⟨oc9,hX11,hk12⟩:=jd hF3
 simp only [qm3]
 refine jq (σ:=Int) l_0 (fun i7 x8 s111=>k9 l_0 i7 x8 s111)
   (fun s fr' h'=>fr' 0=lst qb l_0∧fr' 4 = .int .i64 s∧fr' 12=lst qb l_0∧Sep h' (geL h.length) ([])) hX11 ⟨zf0,rfl,rfl,hS⟩ (by simp only [B0,
   reduceIte,reduceEqDiff]) (by simp only [B0,reduceIte,
   reduceEqDiff]) (fun _ _ _ h=>h) rfl rfl (fun _ _ _ _ h=>h) (fun _ _ _ _ h=>h) (fun _ _ _ _ h=>h) (by decide) ?_ ?_
 ·rintro i7 x8 s6 fr21 h22 hx27 ⟨f24,f25,f26,hS23⟩ f28 f29 oc10 hF13 hr14 Q15 hN16 hB20 hK17 hR18 hE19
  unfold k9 at hF13
  simp only [qst,qg,qe,f28,qd,f26,je,B0,reduceIte,reduceEqDiff]
  refine qj (v := .ref (qb x8) 0) (jp hx27 rfl) ?_
  simp only [qr,B0,reduceIte,reduceEqDiff]
  refine qj (v := .agg [.int .i64 x8.Client,.int .i64 x8.Object,.bool x8.Write,.int .i64 x8.Value,.int .i64 x8.Begin,.int .i64 x8.End]) rfl ?_
  simp only [yp,B0,reduceIte,reduceEqDiff]
  refine ki hS23 (fun b30 h31 hS32=>?_)
  simp only [qd,jh,B0,reduceIte,reduceEqDiff]
  refine z6 (us:=[.int .i64 x8.Client,.int .i64 x8.Object,.bool x8.Write,.int .i64 x8.Value,.int .i64 x8.Begin,.int .i64 x8.End]) rfl (cs':=[.int .i64 x8.Client,
    .int .i64 x8.Object,.bool x8.Write,.int .i64 x8.Value,.int .i64 x8.Begin,.int .i64 x8.End]) hS32 hW rfl rfl (nle rfl) rfl (fun h34 hS35=>?_)
  simp only [qa,B0,reduceIte,reduceEqDiff]
  refine ji hS35 hW (by simp only [B0,reduceIte,reduceEqDiff]) (fun h36 hS37=>?_)
  obtain ⟨l38,hx39,hF40⟩:=qi hF13
  simp only [ja,qsy,qg,qe,f24,qd,qa5,Option.map_some,Option.map_none,B0,reduceIte,reduceEqDiff]
  refine qj (qak hx39 (fun _=>rfl)) ?_
  simp only [zl,qc,zn,qd,qa,B0,reduceIte,reduceEqDiff]
  obtain ⟨oc45,hX47,hk48⟩:=jd hF40
  simp only [quq]
  refine jq (σ:=Int) l38 (fun i43 x44 s97=>yu x8 i43 x44 s97)
    (fun s fr' h'=>fr' 0=lst qb l_0∧fr' 4 = .int .i64 s∧fr' 6 = .ref [.int .i64 x8.Client,.int .i64 x8.Object,.bool x8.Write,.int .i64 x8.Value,
    .int .i64 x8.Begin,.int .i64 x8.End] 0∧fr' 12=lst qb l_0∧fr' 13 = .int .i64 (List.length l_0:Int)∧fr' 14 = .int .i64
    (i7:Int)∧fr' 21=lst qb l38∧Sep h' (geL h.length) ([])) hX47 ⟨f24,f25,rfl,f26,f29,f28,rfl,hS37⟩ (by simp only [B0,reduceIte,
    reduceEqDiff]) (by simp only [B0,reduceIte,reduceEqDiff]) (fun _ _ _ h=>h) rfl rfl (fun _ _ _ _ h=>h) (fun _ _ _ _ h=>h) (fun _ _ _ _ h=>h) (by decide) ?_ ?_
  ·rintro i43 x44 s42 fr57 h58 hx67 ⟨f60,f61,f62,f63,f64,f65,f66,hS59⟩ f68 f69 oc46 hF49 hr50 Q51 hN52 hB56 hK53 hR54 hE55
   unfold yu at hF49
   simp only [qto,qg,qe,f66,f68,je,B0,reduceIte,reduceEqDiff]
   refine qj (v := .ref (qb x44) 0) (jp hx67 rfl) ?_
   simp only [qr,B0,reduceIte,reduceEqDiff]
   refine qj (v := .agg [.int .i64 x44.Client,.int .i64 x44.Object,.bool x44.Write,.int .i64 x44.Value,.int .i64 x44.Begin,.int .i64 x44.End]) rfl ?_
   simp only [yp,B0,reduceIte,reduceEqDiff]
   refine ki hS59 (fun b70 h71 hS72=>?_)
   simp only [jh,B0,reduceIte,reduceEqDiff]
   refine z6 (us:=[.int .i64 x44.Client,.int .i64 x44.Object,.bool x44.Write,.int .i64 x44.Value,.int .i64 x44.Begin,
     .int .i64 x44.End]) rfl (cs':=[.int .i64 x44.Client,.int .i64 x44.Object,.bool x44.Write,.int .i64 x44.Value,.int .i64 x44.Begin,
     .int .i64 x44.End]) hS72 hW rfl rfl (nle rfl) rfl (fun h74 hS75=>?_)
   simp only [qa,B0,reduceIte,reduceEqDiff]
   refine ji hS75 hW (by simp only [B0,reduceIte,reduceEqDiff]) (fun h76 hS77=>?_)
   simp only [ja,qvg,qg,qe,f62,zb,qc,Nat.reduceAdd,Nat.zero_add,Nat.add_zero,zg,qr,B0,reduceIte,reduceEqDiff]
   refine qj (v := .int .i64 x8.Begin) rfl ?_
   simp only [zb,qc,Nat.reduceAdd,Nat.zero_add,Nat.add_zero,zg,qr,B0,reduceIte,reduceEqDiff]
   refine qj (v := .int .i64 x44.End) rfl ?_
   simp only [qv,qc,qdn,qd,B0,reduceIte,reduceEqDiff]
   refine zu 6 (fun fr' h'=>Sep h' (geL h.length) ([])∧fr' 38 = .bool ((decide (x8.Begin<x44.End))&&(decide
     (x44.Begin<x8.End)))∧fr' 0=lst qb l_0∧fr' 4 = .int .i64 s42∧fr' 6 = .ref [.int .i64 x8.Client,.int .i64 x8.Object,.bool x8.Write,.int .i64 x8.Value,
     .int .i64 x8.Begin,.int .i64 x8.End] 0∧fr' 12=lst qb l_0∧fr' 13 = .int .i64 (List.length l_0:Int)∧fr' 14 = .int .i64
     (i7:Int)∧fr' 21=lst qb l38∧fr' 22 = .int .i64 (List.length l38:Int)∧fr' 23 = .int .i64 (i43:Int)) (fun Q78 hN79=>?_) ?_
   ·simp only [List.take_succ_cons,List.take_zero]
    simp only [qf (g:=32),B0,reduceIte,reduceEqDiff]
    refine qy (t:=(decide (x8.Begin<x44.End))) (fun hg80=>?_) (fun hg80=>?_)
    ·simp only [hg80,qf (g:=32),qz,zb,qc,Nat.reduceAdd,Nat.zero_add,Nat.add_zero,zg,qr,B0,reduceIte,reduceEqDiff]
     refine qj (v := .int .i64 x44.Begin) rfl ?_
     simp only [hg80,qf (g:=32),qz,f62,zb,qc,Nat.reduceAdd,Nat.zero_add,Nat.add_zero,zg,qr,B0,reduceIte,reduceEqDiff]
     refine qj (v := .int .i64 x8.End) rfl ?_
     simp only [hg80,qf (g:=32),qz,qv,qc,qdn,qn,zj,qa,qk,B0,reduceIte,reduceEqDiff]
     exact hN79 _ _ ⟨hS77,by rw [uu hg80]; simp only [B0,reduceIte,reduceEqDiff],f60,f61,f62,f63,f64,f65,f66,f69,f68⟩
    ·simp only [hg80,qf (g:=32),zv,qn,qc,zi,qa,qk,B0,reduceIte,reduceEqDiff]
     exact hN79 _ _ ⟨hS77,by rw [uv hg80]; simp only [B0,reduceIte,reduceEqDiff],f60,f61,f62,f63,f64,f65,f66,f69,f68⟩
   rintro fr81 h92 ⟨hS93,f82,f83,f84,f85,f86,f87,f88,f89,f90,f91⟩
   simp only [List.drop_succ_cons,List.drop_zero]
   simp only [qa,qq3,f82,qx,B0,reduceIte,reduceEqDiff]
   refine qt (t:=((decide (x8.Begin<x44.End))&&(decide (x44.Begin<x8.End)))) (fun hc94=>?_) (fun hc94=>?_)
   ·rw [iteT hc94] at hF49
    simp only [qe,f84,qd,qv,qc,xl,qa,qk,B0,reduceIte,reduceEqDiff]
    have e95:=qh hF49
    exact hN52 _ _ _ e95.symm ⟨f83,rfl,f85,f86,f87,f88,f89,hS93⟩ (f91) (f90)
   rw [iteF hc94] at hF49
   simp only [q8,qk,B0,reduceIte,reduceEqDiff]
   have e96:=qh hF49
   exact hN52 _ _ _ e96.symm ⟨f83,f84,f85,f86,f87,f88,f89,hS93⟩ (f91) (f90)
  rintro s98 fr99 h100 rfl ⟨f102,f103,f104,f105,f106,f107,f108,hS101⟩
  dsimp only [jnO] at hk48
  unfold qce at hk48
  simp only [qk,B0,reduceIte,reduceEqDiff]
  have e109:=qh hk48
  exact hN16 _ _ _ e109.symm ⟨f102,f103,f105,hS101⟩ (f107) (f106)
 rintro s112 fr113 h114 rfl ⟨f116,f117,f118,hS115⟩
 dsimp only [jnO] at hk12
 unfold qcb at hk12
 simp only [qg,qe,f117,qd,qa,qs,B0,reduceIte,reduceEqDiff]
 have he:=qh hk12
 subst he
 simp only [z7,B0,reduceIte,reduceEqDiff]
 exact y5 (ql rfl (ql rfl zf))
theorem qe7 (rec:(List Call)→(List Int)→Bool→Option (List Int)) (hrec:∀ {W:Nat→Bool} {h:Heap} {lo:Nat→Prop} {S0:List Obj} (hW:∀ b,
  lo b→W b=true) (v_0:List Call) (pv1:XV) (pc1:List Obj) (v_1:List Int) (ph1:SlF cI 1 3 pv1 v_1 pc1) (v_2:Bool) (r:List Int) (hF:rec v_0 v_1 v_2=some r)
  (hS:Sep h lo (pc1++(S0))),Ret E W 48 [lst qb v_0,pv1,.bool v_2] h (fun v h'=>∃ rv0 rc0,
  v=rv0∧SlF cI 1 3 rv0 r rc0∧Sep h' lo (rc0++(S0)))) {W:Nat→Bool} {h:Heap} {lo:Nat→Prop} {S0:List Obj} (hW:∀ b,
  lo b→W b=true) (v_0:List Call) (pv1:XV) (pc1:List Obj) (v_1:List Int) (ph1:SlF cI 1 3 pv1 v_1 pc1) (v_2:Bool) (r:List Int)
  (hF:wk rec v_0 v_1 v_2=some r) (hS:Sep h lo (pc1++(S0))) : Ret E W 48 [lst qb v_0,pv1,.bool v_2] h (fun v h'=>∃ rv0 rc0,
  v=rv0∧SlF cI 1 3 rv0 r rc0∧Sep h' lo (rc0++(S0))):=by
 refine Ret.of (fn:=x48) rfl (Run.of ?_)
 unfold wk at hF
 have zf0:qq [lst qb v_0,pv1,.bool v_2] 0=lst qb v_0:=rfl
 have zf1:qq [lst qb v_0,pv1,.bool v_2] 1=pv1:=rfl
 have zf2:qq [lst qb v_0,pv1,.bool v_2] 2 = .bool v_2:=rfl
 generalize qq [lst qb v_0,pv1,.bool v_2]=fr0 at zf0 zf1 zf2 ⊢
 obtain ⟨v1,hx2,hF3⟩:=qi hF
 simp only [x48,qg,qe,qd,qa,ql4,zf0,zf1,qo,B0,reduceIte,reduceEqDiff]
 refine zp rfl (ql zt (ql (SlF.snap ph1 hS rfl (fun _=>rfl) (fun _=>rfl)) zf)) (qdb (fun b hb=>decide_eq_true hb) v_0 v_1 v1 hx2) ?_
 simp only [jc,qc,kt,qa,qx,B0,reduceIte,reduceEqDiff]
 refine qt (t:=(!v1)) (fun hc4=>?_) (fun hc4=>?_)
 ·rw [iteT hc4] at hF3
  simp only [qg,qe,qd,qa,qs,B0,reduceIte,reduceEqDiff]
  have he:=qh hF3
  subst he
  simp only [q9,B0,reduceIte,reduceEqDiff]
  exact ⟨.nil,[],by first | trivial | rfl,SlF.nil,((Sep.dc (hS)) : Sep _ lo (S0))⟩
 rw [iteF hc4] at hF3
 simp only [q8,qm5,qg,qe,zf1,qd,zl,qc,SlF.plen ph1,zf0,zn,qv,qb2,qa,qvm,qx,B0,reduceIte,
   reduceEqDiff]
 refine qt (t:=(decide ((List.length v_1:Int)=(List.length v_0:Int)))) (fun hc5=>?_) (fun hc5=>?_)
 ·rw [iteT hc5] at hF3
  simp only [qg,qe,zf1,qd,qa,qs,B0,reduceIte,reduceEqDiff]
  have he:=qh hF3
  subst he
  simp only [q9,B0,reduceIte,reduceEqDiff]
  exact ⟨pv1,pc1,by first | trivial | rfl,ph1,hS⟩
 rw [iteF hc5] at hF3
 simp only [q8,qoe,qg,qe,zf0,qd,zl,qc,zn,qa,B0,reduceIte,reduceEqDiff]
 obtain ⟨oc8,hX10,hk11⟩:=jd hF3
 simp only [ql0]
 refine jq (σ:=Unit) v_0 (fun i6 x7 _=>xa v_0 v_1 v_2 rec i6 x7 )
   (fun s fr' h'=>fr' 0=lst qb v_0∧fr' 1=pv1∧fr' 2 = .bool v_2∧fr' 23=lst qb v_0∧Sep h' lo (pc1++(S0))) hX10 ⟨zf0,zf1,zf2,rfl,
   hS⟩ (by simp only [B0,reduceIte,reduceEqDiff]) (by simp only [B0,reduceIte,
   reduceEqDiff]) (fun _ _ _ h=>h) rfl rfl (fun _ _ _ _ h=>h) (fun _ _ _ _ h=>h) (fun _ _ _ _ h=>h) (by decide) ?_ ?_
 ·rintro i6 x7 _ fr20 h21 hx27 ⟨f23,f24,f25,f26,hS22⟩ f28 f29 oc9 hF12 hr13 Q14 hN15 hB19 hK16 hR17 hE18
  unfold xa at hF12
  simp only [qou,qg,qe,f28,qd,f26,je,B0,reduceIte,reduceEqDiff]
  refine qj (v := .ref (qb x7) 0) (jp hx27 rfl) ?_
  simp only [qr,B0,reduceIte,reduceEqDiff]
  refine qj (v := .agg [.int .i64 x7.Client,.int .i64 x7.Object,.bool x7.Write,.int .i64 x7.Value,.int .i64 x7.Begin,.int .i64 x7.End]) rfl ?_
  simp only [yp,B0,reduceIte,reduceEqDiff]
  refine ki hS22 (fun b30 h31 hS32=>?_)
  simp only [qd,jh,B0,reduceIte,reduceEqDiff]
  refine z6 (us:=[.int .i64 x7.Client,.int .i64 x7.Object,.bool x7.Write,.int .i64 x7.Value,.int .i64 x7.Begin,.int .i64 x7.End]) rfl (cs':=[.int .i64 x7.Client,
    .int .i64 x7.Object,.bool x7.Write,.int .i64 x7.Value,.int .i64 x7.Begin,.int .i64 x7.End]) hS32 hW rfl rfl (nle rfl) rfl (fun h34 hS35=>?_)
  simp only [qa,B0,reduceIte,reduceEqDiff]
  refine ji hS35 hW (by simp only [B0,reduceIte,reduceEqDiff]) (fun h36 hS37=>?_)
  obtain ⟨v38,hx39,hF40⟩:=qi hF12
  simp only [ja,qmr,qg,qe,f24,qd,qo,B0,reduceIte,reduceEqDiff]
  refine zp rfl (ql (SlF.snap ph1 hS37 rfl (fun _=>rfl) (fun _=>rfl)) (ql qp zf)) (qc2 (fun b hb=>decide_eq_true hb) v_1 (i6:Int) v38 hx39) ?_
  simp only [jc,qc,kt,qd,qa,qo0,qg,qe,f23,zl,zn,B0,reduceIte,reduceEqDiff]
  obtain ⟨oc45,hX47,hk48⟩:=jd hF40
  simp only [qsg]
  refine jq (σ:=Bool) v_0 (fun i43 x44 s139=>w7 v_1 v_2 i6 x7 i43 x44 s139)
    (fun s fr' h'=>fr' 0=lst qb v_0∧fr' 1=pv1∧fr' 2 = .bool v_2∧fr' 7 = .int .i64 (i6:Int)∧fr' 8 = .ref [.int .i64 x7.Client,.int .i64 x7.Object,
    .bool x7.Write,.int .i64 x7.Value,.int .i64 x7.Begin,
    .int .i64 x7.End] 0∧fr' 9 = .bool s∧fr' 23=lst qb v_0∧fr' 24 = .int .i64 (List.length v_0:Int)∧fr' 25 = .int .i64
    (i6:Int)∧fr' 34=lst qb v_0∧Sep h' lo (pc1++(S0))) hX47 ⟨f23,f24,f25,rfl,rfl,rfl,f26,f29,f28,rfl,hS37⟩ (by simp only [B0,reduceIte,
    reduceEqDiff]) (by simp only [B0,reduceIte,reduceEqDiff]) (fun _ _ _ h=>h) rfl rfl (fun _ _ _ _ h=>h) (fun _ _ _ _ h=>h) (fun _ _ _ _ h=>h) (by decide) ?_ ?_
  ·rintro i43 x44 s42 fr57 h58 hx70 ⟨f60,f61,f62,f63,f64,f65,f66,f67,f68,f69,hS59⟩ f71 f72 oc46 hF49 hr50 Q51 hN52 hB56 hK53 hR54 hE55
   unfold w7 at hF49
   simp only [qr2,qg,qe,f71,qd,f69,je,B0,reduceIte,reduceEqDiff]
   refine qj (v := .ref (qb x44) 0) (jp hx70 rfl) ?_
   simp only [qr,B0,reduceIte,reduceEqDiff]
   refine qj (v := .agg [.int .i64 x44.Client,.int .i64 x44.Object,.bool x44.Write,.int .i64 x44.Value,.int .i64 x44.Begin,.int .i64 x44.End]) rfl ?_
   simp only [yp,B0,reduceIte,reduceEqDiff]
   refine ki hS59 (fun b73 h74 hS75=>?_)
   simp only [qd,jh,B0,reduceIte,reduceEqDiff]
   refine z6 (us:=[.int .i64 x44.Client,.int .i64 x44.Object,.bool x44.Write,.int .i64 x44.Value,.int .i64 x44.Begin,
     .int .i64 x44.End]) rfl (cs':=[.int .i64 x44.Client,.int .i64 x44.Object,.bool x44.Write,.int .i64 x44.Value,.int .i64 x44.Begin,
     .int .i64 x44.End]) hS75 hW rfl rfl (nle rfl) rfl (fun h77 hS78=>?_)
   simp only [qa,B0,reduceIte,reduceEqDiff]
   refine ji hS78 hW (by simp only [B0,reduceIte,reduceEqDiff]) (fun h79 hS80=>?_)
   simp only [ja,qt9,qg,qe,qd,f63,qv,qc,qey,B0,reduceIte,reduceEqDiff]
   obtain ⟨v84,hx85,hF86⟩:=qi hF49
   refine zu 5 (fun fr' h'=>Sep h' lo (pc1++(S0))∧fr' 49 = .bool v84∧fr' 0=lst qb v_0∧fr' 1=pv1∧fr' 2 = .bool v_2∧fr' 7 = .int .i64
     (i6:Int)∧fr' 8 = .ref [.int .i64 x7.Client,.int .i64 x7.Object,.bool x7.Write,.int .i64 x7.Value,.int .i64 x7.Begin,
     .int .i64 x7.End] 0∧fr' 9 = .bool s42∧fr' 11 = .ref [.int .i64 x44.Client,.int .i64 x44.Object,.bool x44.Write,.int .i64 x44.Value,.int .i64 x44.Begin,
     .int .i64 x44.End] 0∧fr' 23=lst qb v_0∧fr' 24 = .int .i64 (List.length v_0:Int)∧fr' 25 = .int .i64
     (i6:Int)∧fr' 34=lst qb v_0∧fr' 35 = .int .i64 (List.length v_0:Int)∧fr' 36 = .int .i64 (i43:Int)) (fun Q81 hN82=>?_) ?_
   ·simp only [List.take_succ_cons,List.take_zero]
    simp only [qf (g:=44),B0,reduceIte,reduceEqDiff]
    refine qy (t:=(decide ((i43:Int)≠(i6:Int)))) (fun hg83=>?_) (fun hg83=>?_)
    ·rw [iteT hg83] at hx85
     obtain ⟨v87,hx88,hF89⟩:=qi hx85
     simp only [hg83,qf (g:=44),qz,f61,qd,qo,B0,reduceIte,reduceEqDiff]
     refine zp rfl (ql (SlF.snap ph1 hS80 rfl (fun _=>rfl) (fun _=>rfl)) (ql qp zf)) (qc2 (fun b hb=>decide_eq_true hb) v_1
       (i43:Int) v87 hx88) ?_
     simp only [hg83,qf (g:=44),qz,jc,qc,kt,qn,zj,qa,qk,B0,reduceIte,reduceEqDiff]
     have e90:=qh hF89
     exact hN82 _ _ ⟨hS80,by rw [←e90]; simp only [B0,reduceIte,reduceEqDiff],f60,f61,f62,f63,f64,f65,rfl,f66,f67,f68,f69,f72,f71⟩
    ·rw [iteF hg83] at hx85
     simp only [hg83,qf (g:=44),zv,qn,qc,zi,qa,qk,B0,reduceIte,reduceEqDiff]
     have e91:=qh hx85
     exact hN82 _ _ ⟨hS80,by rw [←e91]; simp only [B0,reduceIte,reduceEqDiff],f60,f61,f62,f63,f64,f65,rfl,f66,f67,f68,f69,f72,f71⟩
   rintro fr92 h107 ⟨hS108,f93,f94,f95,f96,f97,f98,f99,f100,f101,f102,f103,f104,f105,f106⟩
   simp only [List.drop_succ_cons,List.drop_zero]
   simp only [f93,qd,B0,reduceIte,reduceEqDiff]
   obtain ⟨v112,hx113,hF114⟩:=qi hF86
   refine zu 5 (fun fr' h'=>Sep h' lo (pc1++(S0))∧fr' 55 = .bool v112∧fr' 0=lst qb v_0∧fr' 1=pv1∧fr' 2 = .bool v_2∧fr' 7 = .int .i64
     (i6:Int)∧fr' 8 = .ref [.int .i64 x7.Client,.int .i64 x7.Object,.bool x7.Write,.int .i64 x7.Value,.int .i64 x7.Begin,
     .int .i64 x7.End] 0∧fr' 9 = .bool s42∧fr' 23=lst qb v_0∧fr' 24 = .int .i64 (List.length v_0:Int)∧fr' 25 = .int .i64
     (i6:Int)∧fr' 34=lst qb v_0∧fr' 35 = .int .i64 (List.length v_0:Int)∧fr' 36 = .int .i64 (i43:Int)) (fun Q109 hN110=>?_) ?_
   ·simp only [List.take_succ_cons,List.take_zero]
    simp only [qf (g:=50),B0,reduceIte,reduceEqDiff]
    refine qy (t:=v84) (fun hg111=>?_) (fun hg111=>?_)
    ·rw [iteT hg111] at hx113
     simp only [hg111,qf (g:=50),qz,f100,qr,B0,reduceIte,reduceEqDiff]
     refine qj (v := .agg [.int .i64 x44.Client,.int .i64 x44.Object,.bool x44.Write,.int .i64 x44.Value,.int .i64 x44.Begin,.int .i64 x44.End]) rfl ?_
     simp only [hg111,qf (g:=50),qz,f98,qr,B0,reduceIte,reduceEqDiff]
     refine qj (v := .agg [.int .i64 x7.Client,.int .i64 x7.Object,.bool x7.Write,.int .i64 x7.Value,.int .i64 x7.Begin,.int .i64 x7.End]) rfl ?_
     obtain ⟨v115,hx116,hF117⟩:=qi hx113
     simp only [hg111,qf (g:=50),qz,f96,qd,qo,B0,reduceIte,reduceEqDiff]
     refine zp rfl (ql (qaz (ql qp (ql qp (ql wz (ql qp (ql qp (ql qp zf))))))) (ql (qaz
       (ql qp (ql qp (ql wz (ql qp (ql qp (ql qp zf))))))) (ql wz zf))) (qc1
       (fun b hb=>decide_eq_true hb) x44 x7 v_2 v115 hx116) ?_
     simp only [hg111,qn,qc,zj,qa,qk,B0,reduceIte,reduceEqDiff]
     have e118:=qh hF117
     exact hN110 _ _ ⟨hS108,by rw [←e118]; simp only [B0,reduceIte,reduceEqDiff],f94,f95,f96,f97,f98,f99,f101,f102,f103,f104,f105,f106⟩
    ·rw [iteF hg111] at hx113
     simp only [hg111,qf (g:=50),zv,qn,qc,zi,qa,qk,B0,reduceIte,reduceEqDiff]
     have e119:=qh hx113
     exact hN110 _ _ ⟨hS108,by rw [←e119]; simp only [B0,reduceIte,reduceEqDiff],f94,f95,f96,f97,f98,f99,f101,f102,f103,f104,f105,f106⟩
   rintro fr120 h134 ⟨hS135,f121,f122,f123,f124,f125,f126,f127,f128,f129,f130,f131,f132,f133⟩
   simp only [List.drop_succ_cons,List.drop_zero]
   simp only [qa,f121,qx,B0,reduceIte,reduceEqDiff]
   refine qt (t:=v112) (fun hc136=>?_) (fun hc136=>?_)
   ·rw [iteT hc136] at hF114
    simp only [qe,qd,qa,qk,B0,reduceIte,reduceEqDiff]
    have e137:=qh hF114
    exact hN52 _ _ _ e137.symm ⟨f122,f123,f124,f125,f126,rfl,f128,f129,f130,f131,hS135⟩ (f133) (f132)
   rw [iteF hc136] at hF114
   simp only [q8,qk,B0,reduceIte,reduceEqDiff]
   have e138:=qh hF114
   exact hN52 _ _ _ e138.symm ⟨f122,f123,f124,f125,f126,f127,f128,f129,f130,f131,hS135⟩ (f133) (f132)
  rintro s140 fr141 h142 rfl ⟨f144,f145,f146,f147,f148,f149,f150,f151,f152,f153,hS143⟩
  dsimp only [jnO] at hk48
  unfold qbi at hk48
  simp only [qt5,qg,qe,f149,qd,jc,qc,kt,qa,qx,B0,reduceIte,reduceEqDiff]
  refine qt (t:=(!s140)) (fun hc154=>?_) (fun hc154=>?_)
  ·rw [iteT hc154] at hk48
   simp only [u1,u7,qag,B0,reduceIte,reduceEqDiff]
   have e155:=qh hk48
   exact hB19 _ _ _ e155.symm ⟨f144,f145,f146,f150,hS143⟩ (f152) (f151)
  rw [iteF hc154] at hk48
  simp only [q8,qrz,qg,qe,f144,qd,k8,evp,B0,reduceIte,reduceEqDiff]
  refine j8 (n:=1) (f:=cI) ([] : List Int) hS143 rfl rfl (fun v156 c157 h158 hv159 hS160=>?_)
  simp only [f145,qd,ur,B0,reduceIte,reduceEqDiff]
  obtain ⟨l162,hx163,hF164⟩:=qi hk48
  refine yx (f:=cI) hv159 hS160 hW (fun _=>rfl) (fun _=>rfl) (SlF.first ph1 (Sep.m1 hS160) (fun _=>rfl)) hx163 (fun v165 c166 h167 hv168 hS169=>?_)
  simp only [f147,qd,k8,evp,B0,reduceIte,reduceEqDiff]
  refine j8 (n:=1) (f:=cI) [(i6:Int)] hS169 rfl rfl (fun v171 c172 h173 hv174 hS175=>?_)
  simp only [ur,B0,reduceIte,reduceEqDiff]
  obtain ⟨l177,hx178,hF179⟩:=qi hF164
  refine yx (f:=cI) hv168 (Sep.m1 hS175) hW (fun _=>rfl) (fun _=>rfl) (SlF.first hv174 hS175 (fun _=>rfl)) hx178 (fun v180 c181 h182 hv183 hS184=>?_)
  obtain ⟨v186,hx187,hF188⟩:=qi hF179
  simp only [f146,qd,qo,B0,reduceIte,reduceEqDiff]
  refine jz rfl (hrec hW v_0 v180 c181 l177 hv183 v_2 v186 hx187 hS184) ?_
  rintro v189 h193 ⟨_,c190,rfl,hv191,hS194⟩
  simp only [qd,qa,qvc,qg,qe,zl,qc,SlF.plen hv191,qv,ut,qrh,qx,B0,reduceIte,reduceEqDiff]
  refine qt (t:=(decide ((0:Int)<(List.length v186:Int)))) (fun hc195=>?_) (fun hc195=>?_)
  ·rw [iteT hc195] at hF188
   simp only [qg,qe,qd,qa,qs,B0,reduceIte,reduceEqDiff]
   have e196:=qh hF188
   subst e196
   have ho197:=hr13 _ rfl
   have hk198:=hk11
   rw [ho197] at hk198
   dsimp only [jnO] at hk198
   apply hR17
   have he:=qh hk198
   subst he
   simp only [q9,B0,reduceIte,reduceEqDiff]
   exact ⟨v189,c190,by first | trivial | rfl,hv191,(Sep.dc (Sep.m1 (Sep.dc (Sep.m1 hS194))))⟩
  rw [iteF hc195] at hF188
  simp only [q8,qk,B0,reduceIte,reduceEqDiff]
  have e199:=qh hF188
  exact hN15 _ _ _ e199.symm ⟨f144,f145,f146,f150,(Sep.dc ((Sep.dc (hS194))))⟩ (f152) (f151)
 rintro _ fr202 h203 rfl ⟨f205,f206,f207,f208,hS204⟩
 dsimp only [jnO] at hk11
 unfold qdh at hk11
 simp only [qg,qe,qd,qa,qs,B0,reduceIte,reduceEqDiff]
 have he:=qh hk11
 subst he
 simp only [q9,B0,reduceIte,reduceEqDiff]
 exact ⟨.nil,[],by first | trivial | rfl,SlF.nil,((Sep.dc (hS204)) : Sep _ lo (S0))⟩
theorem qgc:∀ k:Nat,∀ {W:Nat→Bool} {h:Heap} {lo:Nat→Prop} {S0:List Obj} (hW:∀ b,
  lo b→W b=true) (v_0:List Call) (pv1:XV) (pc1:List Obj) (v_1:List Int) (ph1:SlF cI 1 3 pv1 v_1 pc1) (v_2:Bool) (r:List Int)
  (hF:kn k v_0 v_1 v_2=some r) (hS:Sep h lo (pc1++(S0))),Ret E W 48 [lst qb v_0,pv1,.bool v_2] h (fun v h'=>∃ rv0 rc0,
  v=rv0∧SlF cI 1 3 rv0 r rc0∧Sep h' lo (rc0++(S0))):=by
 intro k
 induction k with
 | zero=>intros; rename_i hF _; cases hF
 | succ k ih=>exact @qe7 (kn k) ih
theorem qhk {W:Nat→Bool}{h:Heap}{lo:Nat→Prop}{S0:List Obj} (hW:∀ b,
  lo b→W b=true) (k:Nat) (v_0:List Call) (pv1:XV) (pc1:List Obj) (v_1:List Int) (ph1:SlF cI 1 3 pv1 v_1 pc1) (v_2:Bool) (r:List Int)
  (hF:kn k v_0 v_1 v_2=some r) (hS:Sep h lo (pc1++(S0))) : Ret E W 48 [lst qb v_0,pv1,.bool v_2] h (fun v h'=>∃ rv0 rc0,
  v=rv0∧SlF cI 1 3 rv0 r rc0∧Sep h' lo (rc0++(S0))):=qgc k hW v_0 pv1 pc1 v_1 ph1 v_2 r hF hS
theorem qg2 {W:Nat→Bool}{h:Heap} (hW:∀ b,
  (geL h.length) b→W b=true) (k:Nat) (l_0:List Call) (r:(List Int) × Bool) (hF:qan k l_0=some r) : Ret E W 22 [lst qb l_0] h
  (fun v h'=>∃ rv0 rc0,v = .tup [rv0,.bool r.2]∧SlF cI 1 3 rv0 r.1 rc0∧Sep h' (geL h.length) (rc0++([]))):=by
 refine Ret.of (fn:=x22) rfl (Run.of ?_)
 unfold qan at hF
 have zf0:qq [lst qb l_0] 0=lst qb l_0:=rfl
 generalize qq [lst qb l_0]=fr0 at zf0 ⊢
 have hS:Sep h (geL h.length) []:=Sep.nil h
 obtain ⟨v1,hx2,hF3⟩:=qi hF
 simp only [x22,qg,qe,qd,qa,qu5,zf0,qo,B0,reduceIte,reduceEqDiff]
 refine zp rfl (ql zt zf) (uh (fun b hb=>decide_eq_true hb) l_0 v1 hx2) ?_
 simp only [jc,qc,kt,qa,qrr,qx,B0,reduceIte,reduceEqDiff]
 refine qt (t:=(!v1)) (fun hc4=>?_) (fun hc4=>?_)
 ·rw [iteT hc4] at hF3
  simp only [qg,qe,qd,qa,qs,B0,reduceIte,reduceEqDiff]
  have he:=qh hF3
  subst he
  simp only [z7,B0,reduceIte,reduceEqDiff]
  exact ⟨.nil,[],by first | trivial | rfl,SlF.nil,(hS:Sep _ (geL h.length) ([]))⟩
 rw [iteF hc4] at hF3
 obtain ⟨v5,hx6,hF7⟩:=qi hF3
 simp only [q8,qsb,qg,qe,zf0,qd,qo,B0,reduceIte,reduceEqDiff]
 refine jz rfl (qhk hW k l_0 .nil [] [] SlF.nil false v5 hx6 hS) ?_
 rintro v8 h12 ⟨_,c9,rfl,hv10,hS13⟩
 simp only [qd,qa,qu9,qg,qe,zl,qc,SlF.plen hv10,zf0,zn,qv,qey,qri,qx,B0,reduceIte,reduceEqDiff]
 refine qt (t:=(decide ((List.length v5:Int)≠(List.length l_0:Int)))) (fun hc14=>?_) (fun hc14=>?_)
 ·rw [iteT hc14] at hF7
  simp only [qg,qe,qd,qa,qs,B0,reduceIte,reduceEqDiff]
  have he:=qh hF7
  subst he
  simp only [z7,B0,reduceIte,reduceEqDiff]
  exact ⟨.nil,[],by first | trivial | rfl,SlF.nil,((Sep.dc (hS13)) : Sep _ (geL h.length) ([]))⟩
 rw [iteF hc14] at hF7
 simp only [q8,qg,qe,qd,qa,qs,B0,reduceIte,reduceEqDiff]
 have he:=qh hF7
 subst he
 simp only [z7,B0,reduceIte,reduceEqDiff]
 exact ⟨v8,c9,by first | trivial | rfl,hv10,hS13⟩
theorem qfu {W:Nat→Bool}{h:Heap}{lo:Nat→Prop}{S0:List Obj} (hW:∀ b,
  lo b→W b=true) (pb0:Nat) (c_0:L1Cur) (r:Int × L1Cur) (hF:qa7 c_0=some r) (hS:Sep h lo ([Blk1 pb0 [lst cU8 c_0.code,.int .i64 c_0.at_,
  .int .u64 c_0.seed] 72]++(S0))) : Ret E W 73 [.ptr pb0 0] h (fun v h'=>v = .int .i64 r.1∧Sep h' lo ([Blk1 pb0 [lst cU8 r.2.code,.int .i64 r.2.at_,
  .int .u64 r.2.seed] 72]++(S0))):=by
 refine Ret.of (fn:=x73) rfl (Run.of ?_)
 unfold qa7 at hF
 have zf0:qq [.ptr pb0 0] 0 = .ptr pb0 0:=rfl
 generalize qq [.ptr pb0 0]=fr0 at zf0 ⊢
 simp only [x73,qg,qe,qd,qa,qtx,qts,yo,zf0,k7,zc,qdz,wo,xu,Nat.reduceAdd,Nat.zero_add,Nat.add_zero,
   zx,j0,B0,reduceIte,reduceEqDiff]
 refine zd (v := .int .i64 c_0.at_) ((kq (Sep.bk _ _ _ hS)).trans rfl) ?_
 simp only [zf0,k7,zc,qdz,wo,xu,Nat.reduceAdd,Nat.zero_add,Nat.add_zero,zx,j0,B0,reduceIte,reduceEqDiff]
 refine zd (v:=lst cU8 c_0.code) ((kq (Sep.bk _ _ _ hS)).trans rfl) ?_
 simp only [qoy,zc,zn,qbf,qdn,jx,quw,qx,B0,reduceIte,reduceEqDiff]
 obtain ⟨s1,hX3,hk4⟩:=qi hF
 refine qbh (t:=(decide (c_0.at_<(List.length c_0.code:Int)))) (fun fr' h'=>fr' 0 = .ptr pb0 0∧fr' 3 = .int .i64 s1∧Sep h' lo ([Blk1 pb0 [lst cU8 c_0.code,
   .int .i64 c_0.at_,.int .u64 c_0.seed] 72]++(S0))) (fun Q5 hN6 hR7 hE8=>⟨fun hc9=>?_,fun hc9=>?_⟩) ?_
 ·rw [iteT hc9] at hX3
  simp only [qrf,yo,zf0,k7,zc,qdz,wo,xu,Nat.reduceAdd,Nat.zero_add,Nat.add_zero,zx,j0,B0,reduceIte,reduceEqDiff]
  refine zd (v:=lst cU8 c_0.code) ((kq (Sep.bk _ _ _ hS)).trans rfl) ?_
  simp only [zf0,k7,zc,qdz,wo,xu,Nat.reduceAdd,Nat.zero_add,Nat.add_zero,zx,j0,B0,reduceIte,reduceEqDiff]
  refine zd (v := .int .i64 c_0.at_) ((kq (Sep.bk _ _ _ hS)).trans rfl) ?_
  obtain ⟨x10,hx11,hF12⟩:=qi hX3
  simp only [ue,B0,reduceIte,reduceEqDiff]
  refine zd (v := .ref (cU8 x10) 0) (xx hx11 rfl) ?_
  simp only [j0,B0,reduceIte,reduceEqDiff]
  refine zd (v := .int .u8 x10) rfl ?_
  simp only [qxz,zc,qij,k7,jx,qk,B0,reduceIte,reduceEqDiff]
  have e13:=qh hF12
  subst e13
  exact hN6 _ _ ⟨zf0,rfl,hS⟩
 ·rw [iteF hc9] at hX3
  simp only [q8,qk,B0,reduceIte,reduceEqDiff]
  have e14:=qh hX3
  subst e14
  exact hN6 _ _ ⟨zf0,rfl,hS⟩
 rintro fr15 h16 ⟨f18,f19,hS17⟩
 unfold qbg at hk4
 simp only [qti,qg,qe,f18,qd,qd4,qc,wo,zb,Nat.reduceAdd,Nat.zero_add,Nat.add_zero,zx,qr,B0,reduceIte,reduceEqDiff]
 refine qj (v := .int .i64 c_0.at_) ((kq (Sep.bk _ _ _ hS17)).trans rfl) ?_
 simp only [qv,qc,xl,qd4,wo,zb,Nat.reduceAdd,Nat.zero_add,Nat.add_zero,zx,jh,B0,reduceIte,reduceEqDiff]
 refine z6 (us:=[.int .i64 (IntKind.wrap .i64 (c_0.at_+1))]) rfl (cs':=[lst cU8 c_0.code,.int .i64 (IntKind.wrap .i64 (c_0.at_+1)),
   .int .u64 c_0.seed]) hS17 hW rfl rfl (nle rfl) rfl (fun h20 hS21=>?_)
 simp only [qa,qte,qg,qe,f18,qd,qd4,qc,wo,zb,Nat.reduceAdd,Nat.zero_add,Nat.add_zero,zx,qr,B0,reduceIte,
   reduceEqDiff]
 refine qj (v := .int .u64 c_0.seed) ((kq (Sep.bk _ _ _ hS21)).trans rfl) ?_
 simp only [qv,qc,qqp,f19,qd,qj3,qij,xl,qd4,wo,zb,Nat.reduceAdd,Nat.zero_add,Nat.add_zero,zx,jh,B0,reduceIte,
   reduceEqDiff]
 refine z6 (us:=[.int .u64 (IntKind.wrap .u64 ((IntKind.wrap .u64 ((IntKind.wrap .u64 (c_0.seed*6364136223846793005)) +
   (IntKind.wrap .u64 s1)))+1442695040888963407))]) rfl (cs':=[lst cU8 c_0.code,.int .i64 (IntKind.wrap .i64 (c_0.at_+1)),
   .int .u64 (IntKind.wrap .u64 ((IntKind.wrap .u64 ((IntKind.wrap .u64 (c_0.seed*6364136223846793005))+(IntKind.wrap .u64 s1)))+1442695040888963407))]) hS21 hW rfl rfl
   (nle rfl) rfl (fun h22 hS23=>?_)
 simp only [qa,qs1,qg,yo,f18,k7,zc,qdz,wo,xu,Nat.reduceAdd,Nat.zero_add,Nat.add_zero,zx,j0,B0,reduceIte,
   reduceEqDiff]
 refine zd (v := .int .i64 (IntKind.wrap .i64 (c_0.at_+1))) ((kq (Sep.bk _ _ _ hS23)).trans rfl) ?_
 simp only [f18,k7,zc,qdz,wo,xu,Nat.reduceAdd,Nat.zero_add,Nat.add_zero,zx,j0,B0,reduceIte,reduceEqDiff]
 refine zd (v:=lst cU8 c_0.code) ((kq (Sep.bk _ _ _ hS23)).trans rfl) ?_
 simp only [qoy,zc,zn,qbf,qgg,jx,qvx,qx,B0,reduceIte,reduceEqDiff]
 refine qt (t:=(decide ((IntKind.wrap .i64 (c_0.at_+1))≤(List.length c_0.code:Int)))) (fun hc24=>?_) (fun hc24=>?_)
 ·rw [iteT hc24] at hk4
  simp only [qg,qe,f19,qd,qa,qs,B0,reduceIte,reduceEqDiff]
  have he:=qh hk4
  subst he
  simp only [q9,B0,reduceIte,reduceEqDiff]
  exact ⟨by first | trivial | rfl,hS23⟩
 rw [iteF hc24] at hk4
 simp only [q8,qq9,qg,qe,f18,qd,qd4,qc,wo,zb,Nat.reduceAdd,Nat.zero_add,Nat.add_zero,zx,qr,B0,reduceIte,
   reduceEqDiff]
 refine qj (v := .int .u64 (IntKind.wrap .u64 ((IntKind.wrap .u64 ((IntKind.wrap .u64 (c_0.seed*6364136223846793005))+(IntKind.wrap .u64 s1)))+1442695040888963407)))
   ((kq (Sep.bk _ _ _ hS23)).trans rfl) ?_
 simp only [qv,qc,qwl (n:=40) (by decide),qxu,qj3,qij,qd,qa,qs,B0,reduceIte,reduceEqDiff]
 have he:=qh hk4
 subst he
 simp only [q9,B0,reduceIte,reduceEqDiff]
 exact ⟨by first | trivial | rfl,hS23⟩
theorem jy {W:Nat→Bool}{h:Heap}{lo:Nat→Prop}{S0:List Obj} (hW:∀ b,
  lo b→W b=true) (pb0:Nat) (c_0:L1Cur) (n_1:Int) (r:Int × L1Cur) (hF:ju c_0 n_1=some r) (hS:Sep h lo ([Blk1 pb0 [lst cU8 c_0.code,.int .i64 c_0.at_,
  .int .u64 c_0.seed] 72]++(S0))) : Ret E W 63 [.ptr pb0 0,.int .i64 n_1] h (fun v h'=>v = .int .i64 r.1∧Sep h' lo ([Blk1 pb0 [lst cU8 r.2.code,.int .i64 r.2.at_,
  .int .u64 r.2.seed] 72]++(S0))):=by
 refine Ret.of (fn:=x63) rfl (Run.of ?_)
 unfold ju at hF
 have zf0:qq [.ptr pb0 0,.int .i64 n_1] 0 = .ptr pb0 0:=rfl
 have zf1:qq [.ptr pb0 0,.int .i64 n_1] 1 = .int .i64 n_1:=rfl
 generalize qq [.ptr pb0 0,.int .i64 n_1]=fr0 at zf0 zf1 ⊢
 simp only [x63,qg,qe,qd,qa,qtp,zf1,qv,qc,qgg,qx,B0,reduceIte,reduceEqDiff]
 refine qt (t:=(decide (n_1≤1))) (fun hc1=>?_) (fun hc1=>?_)
 ·rw [iteT hc1] at hF
  simp only [qg,qe,qd,qa,qs,B0,reduceIte,reduceEqDiff]
  have he:=qh hF
  subst he
  simp only [q9,B0,reduceIte,reduceEqDiff]
  exact ⟨by first | trivial | rfl,hS⟩
 rw [iteF hc1] at hF
 obtain ⟨v2,hx3,hF4⟩:=qi hF
 simp only [q8,qui,qg,qe,zf0,qd,qo,B0,reduceIte,reduceEqDiff]
 refine jz rfl (qfu hW pb0 c_0 v2 hx3 hS) ?_
 rintro _ h5 ⟨rfl,hS6⟩
 simp only [qd,qa,qr5,qg,qe,zf1,qv,qc,ut,quy,qx,B0,reduceIte,reduceEqDiff]
 refine qt (t:=(decide ((200:Int)<n_1))) (fun hc7=>?_) (fun hc7=>?_)
 ·rw [iteT hc7] at hF4
  obtain ⟨v8,hx9,hF10⟩:=qi hF4
  simp only [quv,qe,qd,qv,qc,qqp,zf0,qo,B0,reduceIte,reduceEqDiff]
  refine jz rfl (qfu hW pb0 v2.2 v8 hx9 hS6) ?_
  rintro _ h11 ⟨rfl,hS12⟩
  obtain ⟨hp13,hF14⟩:=qfh hF10
  simp only [qv,qc,xl,qd,qa,qlg,qg,qe,zf1,qj4 (n:=n_1) hp13,qs,B0,reduceIte,reduceEqDiff]
  have he:=qh hF14
  subst he
  simp only [q9,B0,reduceIte,reduceEqDiff]
  exact ⟨by first | trivial | rfl,hS12⟩
 rw [iteF hc7] at hF4
 obtain ⟨hp15,hF16⟩:=qfh hF4
 simp only [q8,qlg,qg,qe,qd,zf1,qv,qc,qj4 (n:=n_1) hp15,qa,qs,B0,reduceIte,reduceEqDiff]
 have he:=qh hF16
 subst he
 simp only [q9,B0,reduceIte,reduceEqDiff]
 exact ⟨by first | trivial | rfl,hS6⟩
theorem qah {W:Nat→Bool}{h:Heap}{lo:Nat→Prop}{S0:List Obj} (hW:∀ b,
  lo b→W b=true) (pb0:Nat) (c_0:L1Cur) (n_1:Int) (r:Bool × L1Cur) (hF:xn c_0 n_1=some r) (hS:Sep h lo ([Blk1 pb0 [lst cU8 c_0.code,.int .i64 c_0.at_,
  .int .u64 c_0.seed] 72]++(S0))) : Ret E W 61 [.ptr pb0 0,.int .i64 n_1] h (fun v h'=>v = .bool r.1∧Sep h' lo ([Blk1 pb0 [lst cU8 r.2.code,.int .i64 r.2.at_,
  .int .u64 r.2.seed] 72]++(S0))):=by
 refine Ret.of (fn:=x61) rfl (Run.of ?_)
 unfold xn at hF
 have zf0:qq [.ptr pb0 0,.int .i64 n_1] 0 = .ptr pb0 0:=rfl
 have zf1:qq [.ptr pb0 0,.int .i64 n_1] 1 = .int .i64 n_1:=rfl
 generalize qq [.ptr pb0 0,.int .i64 n_1]=fr0 at zf0 zf1 ⊢
 obtain ⟨v1,hx2,hF3⟩:=qi hF
 simp only [x61,qg,qe,qd,qa,quj,zf0,zf1,qo,B0,reduceIte,reduceEqDiff]
 refine jz rfl (jy hW pb0 c_0 n_1 v1 hx2 hS) ?_
 rintro _ h4 ⟨rfl,hS5⟩
 simp only [qv,qc,qb2,qd,qa,qs,B0,reduceIte,reduceEqDiff]
 have he:=qh hF3
 subst he
 simp only [q9,B0,reduceIte,reduceEqDiff]
 exact ⟨by first | trivial | rfl,hS5⟩
theorem qis {W:Nat→Bool}{h:Heap}{lo:Nat→Prop}{S0:List Obj} (hW:∀ b,
  lo b→W b=true) (pb0:Nat) (c_0:L1Cur) (pv1:XV) (pc1:List Obj) (list_1:List Int) (ph1:SlF cI 1 3 pv1 list_1 pc1) (r:Int × L1Cur × (List Int))
  (hF:qa9 c_0 list_1=some r) (hS:Sep h lo ([Blk1 pb0 [lst cU8 c_0.code,.int .i64 c_0.at_,.int .u64 c_0.seed] 72]++(pc1++(S0)))) : Ret E W 72 [.ptr pb0 0,
  pv1] h (fun v h'=>∃ ic1,v = .int .i64 r.1∧SlF cI 1 3 pv1 r.2.2 ic1∧Sep h' lo ([Blk1 pb0 [lst cU8 r.2.1.code,.int .i64 r.2.1.at_,
  .int .u64 r.2.1.seed] 72]++(ic1++(S0)))):=by
 refine Ret.of (fn:=x72) rfl (Run.of ?_)
 unfold qa9 at hF
 have zf0:qq [.ptr pb0 0,pv1] 0 = .ptr pb0 0:=rfl
 have zf1:qq [.ptr pb0 0,pv1] 1=pv1:=rfl
 generalize qq [.ptr pb0 0,pv1]=fr0 at zf0 zf1 ⊢
 obtain ⟨v1,hx2,hF3⟩:=qi hF
 simp only [x72,qg,qe,qd,qa,qth,zf1,zf0,zl,qc,SlF.plen ph1,qo,B0,reduceIte,reduceEqDiff]
 refine jz rfl (jy hW pb0 c_0 (List.length list_1:Int) v1 hx2 hS) ?_
 rintro _ h4 ⟨rfl,hS5⟩
 obtain ⟨x6,hx7,hF8⟩:=qi hF3
 simp only [je,B0,reduceIte,reduceEqDiff]
 obtain ⟨b9,hb10⟩:=SlF.isrow ph1 (wx hx7)
 refine qj (SlF.ia ph1 hb10 hx7) ?_
 simp only [qr,B0,reduceIte,reduceEqDiff]
 refine qj (v := .int .i64 x6) ((SlF.ld (o:=0) ph1 (Sep.m1 hS5) hb10 hx7 (fun _=>rfl) (nle rfl)).trans rfl) ?_
 simp only [qd,qa,qs,B0,reduceIte,reduceEqDiff]
 have he:=qh hF8
 subst he
 simp only [q9,B0,reduceIte,reduceEqDiff]
 exact ⟨pc1,by first | trivial | rfl,ph1,(Sep.m1 (Sep.m1 hS5))⟩
end Go.Proofs.Ytddkoiapboeemaa.X
