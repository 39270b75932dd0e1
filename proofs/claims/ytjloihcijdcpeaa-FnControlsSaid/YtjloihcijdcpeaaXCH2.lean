/- The functions' code comes to what the plain functions say (2). -/
import Derived.Test.YtjloihcijdcpeaaXCH1
set_option linter.unusedVariables false
set_option linter.unusedSimpArgs false
set_option maxRecDepth 100000
namespace Go.Proofs.Ytjloihcijdcpeaa.X
open Go
open Nat (reduceEqDiff)
theorem qj6 {W:Nat→Bool}{h:Heap} (hW:∀ b,
  (geL h.length) b→W b=true) (v_0:Control) (v_1:Command) (r:Int) (hF:xn v_0 v_1=some r) : Ret E W 83 [.agg [lst qe v_0.Brokers,
  lst qd v_0.Parts,.int .i64 v_0.Next],.agg [.int .i64 v_1.Kind,.int .i64 v_1.Broker,.int .i64 v_1.Epoch,.int .i64 v_1.Part,.int .i64 v_1.Stamp,
  lst cI v_1.InStep]] h (fun v h'=>cut h.length h' E.sz false 9 v=some (.int .i64 r)):=by
 refine Ret.of (fn:=x83) rfl (Run.of ?_)
 unfold xn at hF
 have zf0:zj [.agg [lst qe v_0.Brokers,lst qd v_0.Parts,.int .i64 v_0.Next],.agg [.int .i64 v_1.Kind,.int .i64 v_1.Broker,.int .i64 v_1.Epoch,
   .int .i64 v_1.Part,.int .i64 v_1.Stamp,lst cI v_1.InStep]] 0 = .agg [lst qe v_0.Brokers,lst qd v_0.Parts,.int .i64 v_0.Next]:=rfl
 have zf1:zj [.agg [lst qe v_0.Brokers,lst qd v_0.Parts,.int .i64 v_0.Next],.agg [.int .i64 v_1.Kind,.int .i64 v_1.Broker,.int .i64 v_1.Epoch,
   .int .i64 v_1.Part,.int .i64 v_1.Stamp,lst cI v_1.InStep]] 1 = .agg [.int .i64 v_1.Kind,.int .i64 v_1.Broker,.int .i64 v_1.Epoch,.int .i64 v_1.Part,
   .int .i64 v_1.Stamp,lst cI v_1.InStep]:=rfl
 generalize zj [.agg [lst qe v_0.Brokers,lst qd v_0.Parts,.int .i64 v_0.Next],.agg [.int .i64 v_1.Kind,.int .i64 v_1.Broker,.int .i64 v_1.Epoch,
   .int .i64 v_1.Part,.int .i64 v_1.Stamp,lst cI v_1.InStep]]=fr0 at zf0 zf1 ⊢
 have hS:Sep h (geL h.length) []:=Sep.nil h
 simp only [x83,qh,qf,ju,zf0,B0,reduceIte,reduceEqDiff]
 refine je (cs:=[lst qe v_0.Brokers,lst qd v_0.Parts,.int .i64 v_0.Next]) hS rfl rfl rfl (fun b1 h2 hS3=>?_)
 simp only [ju,zf1,B0,reduceIte,reduceEqDiff]
 refine je (cs:=[.int .i64 v_1.Kind,.int .i64 v_1.Broker,.int .i64 v_1.Epoch,.int .i64 v_1.Part,.int .i64 v_1.Stamp,
   lst cI v_1.InStep]) hS3 rfl rfl rfl (fun b5 h6 hS7=>?_)
 simp only [qg,qa,B0,reduceIte,reduceEqDiff]
 refine zw (Sep.m1 hS7) hW (by simp only [B0,reduceIte,reduceEqDiff]) (fun h9 hS10=>?_)
 refine zw hS10 hW (by simp only [B0,reduceIte,reduceEqDiff]) (fun h11 hS12=>?_)
 simp only [zv,qqr,qh,qf,qo,qb,Nat.reduceAdd,Nat.zero_add,Nat.add_zero,qq,ql,B0,reduceIte,reduceEqDiff]
 refine qi (v := .int .i64 v_1.Part) rfl ?_
 simp only [qo,qb,Nat.reduceAdd,Nat.zero_add,Nat.add_zero,qq,ql,B0,reduceIte,reduceEqDiff]
 refine qi (v:=lst qd v_0.Parts) rfl ?_
 simp only [zr,qb,zx,qv,qby,qa,qy,B0,reduceIte,reduceEqDiff]
 refine qw (t:=(decide ((List.length v_0.Parts:Int)≤v_1.Part))) (fun hc13=>?_) (fun hc13=>?_)
 ·rw [iteT hc13] at hF
  simp only [qh,qf,qg,qa,q8,B0,reduceIte,reduceEqDiff]
  have he:=qj hF
  subst he
  simp only [zc,B0,reduceIte,reduceEqDiff]
  exact rfl
 rw [iteF hc13] at hF
 simp only [ze,qpv,qh,qf,qo,qb,Nat.reduceAdd,Nat.zero_add,Nat.add_zero,qq,ql,B0,reduceIte,reduceEqDiff]
 refine qi (v:=lst qd v_0.Parts) rfl ?_
 simp only [qo,qb,Nat.reduceAdd,Nat.zero_add,Nat.add_zero,qq,ql,B0,reduceIte,reduceEqDiff]
 refine qi (v := .int .i64 v_1.Part) rfl ?_
 obtain ⟨x14,hx15,hF16⟩:=qm hF
 simp only [jb,B0,reduceIte,reduceEqDiff]
 refine qi (v := .ref (qd x14) 0) (xx hx15 rfl) ?_
 simp only [ql,B0,reduceIte,reduceEqDiff]
 refine qi (v := .agg [lst cI x14.Homes,lst cI x14.InStep,.int .i64 x14.Leader,.int .i64 x14.Epoch,.int .i64 x14.Stamp]) rfl ?_
 simp only [jg,B0,reduceIte,reduceEqDiff]
 refine z1 hS12 (fun b17 h18 hS19=>?_)
 simp only [zl,B0,reduceIte,reduceEqDiff]
 refine zf (us:=[lst cI x14.Homes,lst cI x14.InStep,.int .i64 x14.Leader,.int .i64 x14.Epoch,.int .i64 x14.Stamp]) rfl (cs':=[lst cI x14.Homes,lst cI x14.InStep,
   .int .i64 x14.Leader,.int .i64 x14.Epoch,.int .i64 x14.Stamp]) hS19 hW rfl rfl (nle rfl) rfl (fun h21 hS22=>?_)
 simp only [qa,B0,reduceIte,reduceEqDiff]
 refine zw hS22 hW (by simp only [B0,reduceIte,reduceEqDiff]) (fun h23 hS24=>?_)
 simp only [zv,qqb,qh,wh,qyn,qf,qo,qb,Nat.reduceAdd,Nat.zero_add,Nat.add_zero,qq,ql,B0,reduceIte,reduceEqDiff]
 refine qi (v := .int .i64 v_1.Epoch) rfl ?_
 simp only [qo,qb,Nat.reduceAdd,Nat.zero_add,Nat.add_zero,qq,ql,B0,reduceIte,reduceEqDiff]
 refine qi (v := .int .i64 x14.Epoch) rfl ?_
 simp only [qv,qb,ue,qg,qa,q0s,qy,B0,reduceIte,reduceEqDiff]
 refine qw (t:=(decide (v_1.Epoch≠x14.Epoch))) (fun hc25=>?_) (fun hc25=>?_)
 ·rw [iteT hc25] at hF16
  simp only [qh,qf,qg,qa,q8,B0,reduceIte,reduceEqDiff]
  have he:=qj hF16
  subst he
  simp only [zc,B0,reduceIte,reduceEqDiff]
  exact rfl
 rw [iteF hc25] at hF16
 simp only [q1d,qh,qf,qo,qb,Nat.reduceAdd,Nat.zero_add,Nat.add_zero,qq,ql,B0,reduceIte,reduceEqDiff]
 refine qi (v := .int .i64 v_1.Broker) rfl ?_
 simp only [qo,qb,Nat.reduceAdd,Nat.zero_add,Nat.add_zero,qq,ql,B0,reduceIte,reduceEqDiff]
 refine qi (v := .int .i64 x14.Leader) rfl ?_
 simp only [qv,qb,ue,qg,qa,qyl,qy,B0,reduceIte,reduceEqDiff]
 refine qw (t:=(decide (v_1.Broker≠x14.Leader))) (fun hc26=>?_) (fun hc26=>?_)
 ·rw [iteT hc26] at hF16
  simp only [qh,qf,qg,qa,q8,B0,reduceIte,reduceEqDiff]
  have he:=qj hF16
  subst he
  simp only [zc,B0,reduceIte,reduceEqDiff]
  exact rfl
 rw [iteF hc26] at hF16
 simp only [qyt,qh,qf,qo,qb,Nat.reduceAdd,Nat.zero_add,Nat.add_zero,qq,ql,B0,reduceIte,reduceEqDiff]
 refine qi (v := .int .i64 v_1.Stamp) rfl ?_
 simp only [qo,qb,Nat.reduceAdd,Nat.zero_add,Nat.add_zero,qq,ql,B0,reduceIte,reduceEqDiff]
 refine qi (v := .int .i64 x14.Stamp) rfl ?_
 simp only [qv,qb,ue,qg,qa,qzh,qy,B0,reduceIte,reduceEqDiff]
 refine qw (t:=(decide (v_1.Stamp≠x14.Stamp))) (fun hc27=>?_) (fun hc27=>?_)
 ·rw [iteT hc27] at hF16
  simp only [qh,qf,qg,qa,q8,B0,reduceIte,reduceEqDiff]
  have he:=qj hF16
  subst he
  simp only [zc,B0,reduceIte,reduceEqDiff]
  exact rfl
 rw [iteF hc27] at hF16
 simp only [q0c,qh,qf,qo,qb,Nat.reduceAdd,Nat.zero_add,Nat.add_zero,qq,ql,B0,reduceIte,reduceEqDiff]
 refine qi (v:=lst cI x14.Homes) rfl ?_
 simp only [qo,qb,Nat.reduceAdd,Nat.zero_add,Nat.add_zero,qq,ql,B0,reduceIte,reduceEqDiff]
 refine qi (v:=lst cI v_1.InStep) rfl ?_
 obtain ⟨v28,hx29,hF30⟩:=qm hF16
 simp only [zb,B0,reduceIte,reduceEqDiff]
 refine jc rfl (qn zo (qn zo zg)) (qig (fun b hb=>decide_eq_true hb) x14.Homes v_1.InStep v28 hx29) ?_
 simp only [ja,qb,jq,qg,B0,reduceIte,reduceEqDiff]
 obtain ⟨v34,hx35,hF36⟩:=qm hF30
 refine zu 7 (fun fr' h'=>Sep h' (geL h.length) ([])∧fr' 52 = .bool v34∧fr' 2 = .ref [lst qe v_0.Brokers,lst qd v_0.Parts,
   .int .i64 v_0.Next] 0∧fr' 3 = .ref [.int .i64 v_1.Kind,.int .i64 v_1.Broker,.int .i64 v_1.Epoch,.int .i64 v_1.Part,.int .i64 v_1.Stamp,
   lst cI v_1.InStep] 0∧fr' 5 = .ref [lst cI x14.Homes,lst cI x14.InStep,.int .i64 x14.Leader,.int .i64 x14.Epoch,.int .i64 x14.Stamp] 0) (fun Q31 hN32=>?_) ?_
 ·simp only [List.take_succ_cons,List.take_zero]
  simp only [qc (g:=45),B0,reduceIte,reduceEqDiff]
  refine qx (t:=(!v28)) (fun hg33=>?_) (fun hg33=>?_)
  ·rw [iteT hg33] at hx35
   simp only [hg33,qc (g:=45),zq,qr,qb,zh,qa,qk,B0,reduceIte,reduceEqDiff]
   have e37:=qj hx35
   exact hN32 _ _ ⟨hS24,by rw [←e37]; simp only [B0,reduceIte,reduceEqDiff],rfl,rfl,rfl⟩
  ·rw [iteF hg33] at hx35
   simp only [hg33,qc (g:=45),qp,qo,qb,Nat.reduceAdd,Nat.zero_add,Nat.add_zero,qq,ql,B0,reduceIte,reduceEqDiff]
   refine qi (v:=lst cI v_1.InStep) rfl ?_
   simp only [hg33,qc (g:=45),qp,qo,qb,Nat.reduceAdd,Nat.zero_add,Nat.add_zero,qq,ql,B0,reduceIte,reduceEqDiff]
   refine qi (v := .int .i64 x14.Leader) rfl ?_
   obtain ⟨v38,hx39,hF40⟩:=qm hx35
   simp only [hg33,qc (g:=45),qp,zb,B0,reduceIte,reduceEqDiff]
   refine jc rfl (qn zo (qn qu zg)) (qct (fun b hb=>decide_eq_true hb) v_1.InStep x14.Leader v38 hx39) ?_
   simp only [hg33,qc (g:=45),qp,ja,qb,jq,qr,zi,qa,qk,B0,reduceIte,reduceEqDiff]
   have e41:=qj hF40
   exact hN32 _ _ ⟨hS24,by rw [←e41]; simp only [B0,reduceIte,reduceEqDiff],rfl,rfl,rfl⟩
 rintro fr42 h47 ⟨hS48,f43,f44,f45,f46⟩
 simp only [List.drop_succ_cons,List.drop_zero]
 simp only [f43,qg,qa,qy,B0,reduceIte,reduceEqDiff]
 refine qw (t:=v34) (fun hc49=>?_) (fun hc49=>?_)
 ·rw [iteT hc49] at hF36
  simp only [qh,qf,qg,qa,q8,B0,reduceIte,reduceEqDiff]
  have he:=qj hF36
  subst he
  simp only [zc,B0,reduceIte,reduceEqDiff]
  exact rfl
 rw [iteF hc49] at hF36
 simp only [ze,xd,qrb,qh,qf,f45,qo,qb,Nat.reduceAdd,Nat.zero_add,Nat.add_zero,qq,ql,B0,reduceIte,reduceEqDiff]
 refine qi (v:=lst cI v_1.InStep) rfl ?_
 simp only [zr,qb,zx,qg,qa,B0,reduceIte,reduceEqDiff]
 obtain ⟨oc52,hX54,hk55⟩:=jd hF36
 simp only [qvk]
 refine kn (σ:=Unit) v_1.InStep (fun i50 x51 _=>qah v_0 x14 i50 x51 ) (fun s fr' h'=>fr' 2 = .ref [lst qe v_0.Brokers,
   lst qd v_0.Parts,.int .i64 v_0.Next] 0∧fr' 5 = .ref [lst cI x14.Homes,lst cI x14.InStep,.int .i64 x14.Leader,.int .i64 x14.Epoch,
   .int .i64 x14.Stamp] 0∧fr' 54=lst cI v_1.InStep∧Sep h' (geL h.length) ([])) hX54 ⟨f44,f46,rfl,hS48⟩ (by simp only [B0,reduceIte,reduceEqDiff]) (by simp only [B0,
   reduceIte,reduceEqDiff]) (fun _ _ _ h=>h) rfl rfl (fun _ _ _ _ h=>h) (fun _ _ _ _ h=>h) (fun _ _ _ _ h=>h) (by decide) ?_ ?_
 ·rintro i50 x51 _ fr64 h65 hx70 ⟨f67,f68,f69,hS66⟩ f71 f72 oc53 hF56 hr57 Q58 hN59 hB63 hK60 hR61 hE62
  unfold qah at hF56
  simp only [q17,qh,qf,f69,f71,jb,B0,reduceIte,reduceEqDiff]
  refine qi (v := .ref (cI x51) 0) (ko hx70 rfl) ?_
  simp only [ql,B0,reduceIte,reduceEqDiff]
  refine qi (v := .int .i64 x51) rfl ?_
  simp only [qg,qa,q32,qh,qf,f67,qo,qb,Nat.reduceAdd,Nat.zero_add,Nat.add_zero,qq,ql,B0,reduceIte,reduceEqDiff]
  refine qi (v:=lst qe v_0.Brokers) rfl ?_
  obtain ⟨x73,hx74,hF75⟩:=qm hF56
  simp only [qg,jb,B0,reduceIte,reduceEqDiff]
  refine qi (v := .ref (qe x73) 0) (xx hx74 rfl) ?_
  simp only [qo,qb,Nat.reduceAdd,Nat.zero_add,Nat.add_zero,qq,ql,B0,reduceIte,reduceEqDiff]
  refine qi (v := .bool x73.Fenced) rfl ?_
  simp only [qg,B0,reduceIte,reduceEqDiff]
  obtain ⟨v79,hx80,hF81⟩:=qm hF75
  refine zu 6 (fun fr' h'=>Sep h' (geL h.length) ([])∧fr' 72 = .bool v79∧fr' 2 = .ref [lst qe v_0.Brokers,lst qd v_0.Parts,
    .int .i64 v_0.Next] 0∧fr' 5 = .ref [lst cI x14.Homes,lst cI x14.InStep,.int .i64 x14.Leader,.int .i64 x14.Epoch,
    .int .i64 x14.Stamp] 0∧fr' 54=lst cI v_1.InStep∧fr' 55 = .int .i64 (List.length v_1.InStep:Int)∧fr' 56 = .int .i64 (i50:Int)) (fun Q76 hN77=>?_) ?_
  ·simp only [List.take_succ_cons,List.take_zero]
   simp only [qc (g:=66),B0,reduceIte,reduceEqDiff]
   refine qx (t:=x73.Fenced) (fun hg78=>?_) (fun hg78=>?_)
   ·rw [iteT hg78] at hx80
    simp only [hg78,qc (g:=66),qz,f68,qo,qb,Nat.reduceAdd,Nat.zero_add,Nat.add_zero,qq,ql,B0,reduceIte,reduceEqDiff]
    refine qi (v:=lst cI x14.InStep) rfl ?_
    obtain ⟨v82,hx83,hF84⟩:=qm hx80
    simp only [hg78,qc (g:=66),qz,qg,zb,B0,reduceIte,reduceEqDiff]
    refine jc rfl (qn zo (qn qu zg)) (qct (fun b hb=>decide_eq_true hb) x14.InStep x51 v82 hx83) ?_
    simp only [hg78,qc (g:=66),qz,ja,qb,jq,qr,zh,qa,qk,B0,reduceIte,reduceEqDiff]
    have e85:=qj hF84
    exact hN77 _ _ ⟨hS66,by rw [←e85]; simp only [B0,reduceIte,reduceEqDiff],f67,f68,f69,f72,f71⟩
   ·rw [iteF hg78] at hx80
    simp only [hg78,qc (g:=66),zy,qr,qb,zi,qa,qk,B0,reduceIte,reduceEqDiff]
    have e86:=qj hx80
    exact hN77 _ _ ⟨hS66,by rw [←e86]; simp only [B0,reduceIte,reduceEqDiff],f67,f68,f69,f72,f71⟩
  rintro fr87 h94 ⟨hS95,f88,f89,f90,f91,f92,f93⟩
  simp only [List.drop_succ_cons,List.drop_zero]
  simp only [qa,f88,qy,B0,reduceIte,reduceEqDiff]
  refine qw (t:=v79) (fun hc96=>?_) (fun hc96=>?_)
  ·rw [iteT hc96] at hF81
   simp only [qh,qf,qg,qa,q8,B0,reduceIte,reduceEqDiff]
   have e97:=qj hF81
   subst e97
   have ho98:=hr57 _ rfl
   have hk99:=hk55
   rw [ho98] at hk99
   dsimp only [jnO] at hk99
   apply hR61
   have he:=qj hk99
   subst he
   simp only [zc,B0,reduceIte,reduceEqDiff]
   exact rfl
  rw [iteF hc96] at hF81
  simp only [ze,qk,B0,reduceIte,reduceEqDiff]
  have e100:=qj hF81
  exact hN59 _ _ _ e100.symm ⟨f89,f90,f91,hS95⟩ (f93) (f92)
 rintro _ fr102 h103 rfl ⟨f105,f106,f107,hS104⟩
 dsimp only [jnO] at hk55
 unfold qgi at hk55
 simp only [qh,qf,qg,qa,q8,B0,reduceIte,reduceEqDiff]
 have he:=qj hk55
 subst he
 simp only [zc,B0,reduceIte,reduceEqDiff]
 exact rfl
end Go.Proofs.Ytjloihcijdcpeaa.X
namespace Go.Proofs.Ytjloihcijdcpeaa.X
open Go
open Nat (reduceEqDiff)
theorem ql4 {W:Nat→Bool}{h:Heap}{lo:Nat→Prop}{S0:List Obj} (hW:∀ b,
  lo b→W b=true) (v_0:Control) (pv0_0:XV) (pc0_0:List Obj) (ph0_0:SlF qe 3 86 pv0_0 v_0.Brokers pc0_0) (pv0_1:XV) (pc0_1:List Obj)
  (ph0_1:SlN Partition.R 5 39 pv0_1 v_0.Parts pc0_1) (v_1:Command) (r:Control × Int) (hF:qed v_0 v_1=some r) (hS:Sep h lo (pc0_0++(pc0_1 ++
  (S0)))) : Ret E W 55 [.agg [pv0_0,pv0_1,.int .i64 v_0.Next],.agg [.int .i64 v_1.Kind,.int .i64 v_1.Broker,.int .i64 v_1.Epoch,.int .i64 v_1.Part,.int .i64 v_1.Stamp,
  lst cI v_1.InStep]] h (fun v h'=>∃ rc0_0 rv0_1 rc0_1,v = .tup [.agg [pv0_0,rv0_1,.int .i64 r.1.Next],
  .int .i64 r.2]∧SlF qe 3 86 pv0_0 r.1.Brokers rc0_0∧SlN Partition.R 5 39 rv0_1 r.1.Parts rc0_1∧Sep h' lo (rc0_0++(rc0_1++(S0)))):=by
 refine Ret.of (fn:=x55) rfl (Run.of ?_)
 unfold qed at hF
 have zf0:zj [.agg [pv0_0,pv0_1,.int .i64 v_0.Next],.agg [.int .i64 v_1.Kind,.int .i64 v_1.Broker,.int .i64 v_1.Epoch,.int .i64 v_1.Part,.int .i64 v_1.Stamp,
   lst cI v_1.InStep]] 0 = .agg [pv0_0,pv0_1,.int .i64 v_0.Next]:=rfl
 have zf1:zj [.agg [pv0_0,pv0_1,.int .i64 v_0.Next],.agg [.int .i64 v_1.Kind,.int .i64 v_1.Broker,.int .i64 v_1.Epoch,.int .i64 v_1.Part,.int .i64 v_1.Stamp,
   lst cI v_1.InStep]] 1 = .agg [.int .i64 v_1.Kind,.int .i64 v_1.Broker,.int .i64 v_1.Epoch,.int .i64 v_1.Part,.int .i64 v_1.Stamp,lst cI v_1.InStep]:=rfl
 generalize zj [.agg [pv0_0,pv0_1,.int .i64 v_0.Next],.agg [.int .i64 v_1.Kind,.int .i64 v_1.Broker,.int .i64 v_1.Epoch,.int .i64 v_1.Part,.int .i64 v_1.Stamp,
   lst cI v_1.InStep]]=fr0 at zf0 zf1 ⊢
 simp only [x55,qh,qf,ju,zf0,B0,reduceIte,reduceEqDiff]
 refine je (cs:=[pv0_0,pv0_1,.int .i64 v_0.Next]) hS rfl rfl (qs (SlF.one ph0_0) (qs (SlN.one ph0_1) (qs rfl zt))) (fun b1 h2 hS3=>?_)
 simp only [ju,zf1,B0,reduceIte,reduceEqDiff]
 refine je (cs:=[.int .i64 v_1.Kind,.int .i64 v_1.Broker,.int .i64 v_1.Epoch,.int .i64 v_1.Part,.int .i64 v_1.Stamp,
   lst cI v_1.InStep]) hS3 rfl rfl rfl (fun b5 h6 hS7=>?_)
 simp only [jg,B0,reduceIte,reduceEqDiff]
 refine z1 hS7 (fun b9 h10 hS11=>?_)
 simp only [qg,qa,B0,reduceIte,reduceEqDiff]
 refine zw (Sep.m1 hS11) hW (by simp only [B0,reduceIte,reduceEqDiff]) (fun h13 hS14=>?_)
 simp only [zv,qu4,qh,qf,qo,qb,Nat.reduceAdd,Nat.zero_add,Nat.add_zero,qq,ql,B0,reduceIte,reduceEqDiff]
 refine qi (v := .int .i64 v_1.Kind) rfl ?_
 simp only [qa,qr3,wh,qqi,qh,qf,qv,qb,z4,qg,qrc,qy,B0,reduceIte,reduceEqDiff]
 obtain ⟨oc23,hX24,hk25⟩:=jd hF
 refine xq (t:=(decide (v_1.Kind=1))) (fun fr' h'=>∃ s,oc23 = .nxt s∧∃ v17 c18 c21,
   fr' 2 = .ptr b1 0∧fr' 4 = .ptr b9 0∧SlN Partition.R 5 39 v17 s.1.Parts c18∧SlF qe 3 86 pv0_0 s.2 c21∧Sep h' lo ([Blk1 b1 [pv0_0,v17,
   .int .i64 s.1.Next] 29]++([Blk1 b9 [.nil,.nil,.int .i64 0] 29]++(c21++(c18++(S0)))))) (fun Q26 hN27 hR28 hE29=>⟨fun hc30=>?_,fun hc30=>?_⟩) ?_
 ·rw [iteT hc30] at hX24
  simp only [q28,qh,qf,qo,qb,Nat.reduceAdd,Nat.zero_add,Nat.add_zero,q9,ql,B0,reduceIte,reduceEqDiff]
  refine qi (v := .int .i64 v_0.Next) ((z5 (Sep.bk _ _ _ (Sep.m1 hS14))).trans rfl) ?_
  simp only [qv,qb,z4,qa,q3g,qy,B0,reduceIte,reduceEqDiff]
  refine qw (t:=(decide (v_0.Next=1000))) (fun hc31=>?_) (fun hc31=>?_)
  ·rw [iteT hc31] at hX24
   simp only [qh,qf,ql,B0,reduceIte,reduceEqDiff]
   refine qi (v := .agg [pv0_0,pv0_1,.int .i64 v_0.Next]) ((z3 (Sep.bk _ _ _ (Sep.m1 hS14))).trans rfl) ?_
   simp only [zl,B0,reduceIte,reduceEqDiff]
   refine zf (us:=[pv0_0,pv0_1,.int .i64 v_0.Next]) rfl (cs':=[pv0_0,pv0_1,
     .int .i64 v_0.Next]) hS14 hW rfl (qs (SlF.one ph0_0) (qs (SlN.one ph0_1) (qs rfl zt))) (nle rfl) rfl (fun h32 hS33=>?_)
   simp only [qg,qa,q8,B0,reduceIte,reduceEqDiff]
   have e34:=qj hX24
   subst e34
   have hk25':=hk25
   dsimp only [jnO] at hk25'
   apply hR28
   have he:=qj hk25'
   subst he
   refine kc (qn (kr (bb:=b9) (oo:=0) (v := .agg [pv0_0,pv0_1,
     .int .i64 v_0.Next]) (rfl) ((z3 (Sep.bk _ _ _ hS33)).trans rfl)) (qn (ye (v := .int .i64 4) (rfl)) zg)) ?_
   exact ⟨pc0_0,pv0_1,pc0_1,by first | trivial | rfl,ph0_0,ph0_1,(Sep.m1 (Sep.m1 (Sep.dc ((Sep.dc (hS33))))))⟩
  rw [iteF hc31] at hX24
  simp only [ze,q1z,qh,qf,qo,qb,Nat.reduceAdd,Nat.zero_add,Nat.add_zero,q9,ql,B0,reduceIte,reduceEqDiff]
  refine qi (v:=pv0_0) ((z5 (Sep.bk _ _ _ (Sep.m1 hS14))).trans rfl) ?_
  simp only [qo,qb,Nat.reduceAdd,Nat.zero_add,Nat.add_zero,qq,ql,B0,reduceIte,reduceEqDiff]
  refine qi (v := .int .i64 v_1.Broker) rfl ?_
  simp only [qo,qb,Nat.reduceAdd,Nat.zero_add,Nat.add_zero,q9,ql,B0,reduceIte,reduceEqDiff]
  refine qi (v := .int .i64 v_0.Next) ((z5 (Sep.bk _ _ _ (Sep.m1 hS14))).trans rfl) ?_
  simp only [run_build,evp,B0,reduceIte,reduceEqDiff]
  refine qi (v := .agg [.int .i64 v_0.Next,.int .i64 9,.bool false]) rfl ?_
  obtain ⟨x35,hx36,hF37⟩:=qm hX24
  simp only [jb,B0,reduceIte,reduceEqDiff]
  obtain ⟨b38,hb39⟩:=SlF.isrow ph0_0 (k8 hx36)
  refine qi (SlF.ia ph0_0 hb39 hx36) ?_
  simp only [zl,B0,reduceIte,reduceEqDiff]
  refine qds (f:=qe) (x':=(Broker.mk v_0.Next 9 false)) (o:=0) ph0_0 (Sep.m2 hS14) hW hb39 hx36 (fun _=>rfl) rfl rfl (nle rfl) rfl
    (fun c42 h40 hv43 hS41=>?_)
  have hx44:=ym (x':=(Broker.mk v_0.Next 9 false)) hx36
  simp only [qa,qx3,qf,qo,qb,Nat.reduceAdd,Nat.zero_add,Nat.add_zero,q9,ql,B0,reduceIte,reduceEqDiff]
  refine qi (v := .int .i64 v_0.Next) ((z5 (Sep.bk _ _ _ (Sep.m2 hS41))).trans rfl) ?_
  simp only [qv,qb,qaq,qo,Nat.reduceAdd,Nat.zero_add,Nat.add_zero,q9,zl,B0,reduceIte,reduceEqDiff]
  refine zf (us:=[.int .i64 (IntKind.wrap .i64 (v_0.Next+1))]) rfl (cs':=[pv0_0,pv0_1,
    .int .i64 (IntKind.wrap .i64 (v_0.Next+1))]) (Sep.m2 hS41) hW rfl rfl (nle rfl) rfl (fun h45 hS46=>?_)
  simp only [qa,qk,B0,reduceIte,reduceEqDiff]
  have e47:=qj hF37
  exact hN27 _ _ ⟨_,e47.symm,pv0_1,pc0_1,c42,rfl,rfl,ph0_1,hv43,(Sep.m3 (Sep.m3 (Sep.m2 (Sep.m3 hS46))))⟩
 ·rw [iteF hc30] at hX24
  simp only [qpt,qh,qf,qv,qb,z4,qg,qa,qsm,qy,B0,reduceIte,reduceEqDiff]
  refine qw (t:=(decide (v_1.Kind=2))) (fun hc48=>?_) (fun hc48=>?_)
  ·rw [iteT hc48] at hX24
   simp only [qvs,qh,qf,qo,qb,Nat.reduceAdd,Nat.zero_add,Nat.add_zero,q9,ql,B0,reduceIte,reduceEqDiff]
   refine qi (v:=pv0_0) ((z5 (Sep.bk _ _ _ (Sep.m1 hS14))).trans rfl) ?_
   simp only [qo,qb,Nat.reduceAdd,Nat.zero_add,Nat.add_zero,qq,ql,B0,reduceIte,reduceEqDiff]
   refine qi (v := .int .i64 v_1.Broker) rfl ?_
   obtain ⟨x49,hx50,hF51⟩:=qm hX24
   simp only [jb,B0,reduceIte,reduceEqDiff]
   obtain ⟨b52,hb53⟩:=SlF.isrow ph0_0 (k8 hx50)
   refine qi (SlF.ia ph0_0 hb53 hx50) ?_
   simp only [ql,B0,reduceIte,reduceEqDiff]
   refine qi (v := .agg [.int .i64 x49.Epoch,.int .i64 x49.Left,
     .bool x49.Fenced]) ((SlF.lds (o:=0) ph0_0 (Sep.m2 hS14) hb53 hx50 (fun _=>rfl) (nle rfl)).trans rfl) ?_
   simp only [jg,B0,reduceIte,reduceEqDiff]
   refine z1 hS14 (fun b54 h55 hS56=>?_)
   simp only [zl,B0,reduceIte,reduceEqDiff]
   refine zf (us:=[.int .i64 x49.Epoch,.int .i64 x49.Left,.bool x49.Fenced]) rfl (cs':=[.int .i64 x49.Epoch,.int .i64 x49.Left,
     .bool x49.Fenced]) hS56 hW rfl rfl (nle rfl) rfl (fun h58 hS59=>?_)
   simp only [qa,B0,reduceIte,reduceEqDiff]
   refine zw hS59 hW (by simp only [B0,reduceIte,reduceEqDiff]) (fun h60 hS61=>?_)
   simp only [zv,qyo,qh,qf,qo,qb,Nat.reduceAdd,Nat.zero_add,Nat.add_zero,qq,ql,B0,reduceIte,reduceEqDiff]
   refine qi (v := .int .i64 x49.Epoch) rfl ?_
   simp only [qv,qb,z4,qa,qzf,qy,B0,reduceIte,reduceEqDiff]
   refine qw (t:=(decide (x49.Epoch=0))) (fun hc62=>?_) (fun hc62=>?_)
   ·rw [iteT hc62] at hF51
    simp only [qh,qf,ql,B0,reduceIte,reduceEqDiff]
    refine qi (v := .agg [pv0_0,pv0_1,.int .i64 v_0.Next]) ((z3 (Sep.bk _ _ _ (Sep.m1 hS61))).trans rfl) ?_
    simp only [zl,B0,reduceIte,reduceEqDiff]
    refine zf (us:=[pv0_0,pv0_1,.int .i64 v_0.Next]) rfl (cs':=[pv0_0,pv0_1,
      .int .i64 v_0.Next]) hS61 hW rfl (qs (SlF.one ph0_0) (qs (SlN.one ph0_1) (qs rfl zt))) (nle rfl) rfl (fun h63 hS64=>?_)
    simp only [qg,qa,q8,B0,reduceIte,reduceEqDiff]
    have e65:=qj hF51
    subst e65
    have hk25':=hk25
    dsimp only [jnO] at hk25'
    apply hR28
    have he:=qj hk25'
    subst he
    refine kc (qn (kr (bb:=b9) (oo:=0) (v := .agg [pv0_0,pv0_1,
      .int .i64 v_0.Next]) (rfl) ((z3 (Sep.bk _ _ _ hS64)).trans rfl)) (qn (ye (v := .int .i64 1) (rfl)) zg)) ?_
    exact ⟨pc0_0,pv0_1,pc0_1,by first | trivial | rfl,ph0_0,ph0_1,(Sep.m1 (Sep.m1 (Sep.dc ((Sep.dc (hS64))))))⟩
   rw [iteF hc62] at hF51
   simp only [ze,qy1,qh,qf,qo,qb,Nat.reduceAdd,Nat.zero_add,Nat.add_zero,qq,ql,B0,reduceIte,reduceEqDiff]
   refine qi (v := .int .i64 x49.Epoch) rfl ?_
   simp only [qo,qb,Nat.reduceAdd,Nat.zero_add,Nat.add_zero,qq,ql,B0,reduceIte,reduceEqDiff]
   refine qi (v := .int .i64 v_1.Epoch) rfl ?_
   simp only [qv,qb,ue,qa,q37,qy,B0,reduceIte,reduceEqDiff]
   refine qw (t:=(decide (x49.Epoch≠v_1.Epoch))) (fun hc66=>?_) (fun hc66=>?_)
   ·rw [iteT hc66] at hF51
    simp only [qh,qf,ql,B0,reduceIte,reduceEqDiff]
    refine qi (v := .agg [pv0_0,pv0_1,.int .i64 v_0.Next]) ((z3 (Sep.bk _ _ _ (Sep.m1 hS61))).trans rfl) ?_
    simp only [zl,B0,reduceIte,reduceEqDiff]
    refine zf (us:=[pv0_0,pv0_1,.int .i64 v_0.Next]) rfl (cs':=[pv0_0,pv0_1,
      .int .i64 v_0.Next]) hS61 hW rfl (qs (SlF.one ph0_0) (qs (SlN.one ph0_1) (qs rfl zt))) (nle rfl) rfl (fun h67 hS68=>?_)
    simp only [qg,qa,q8,B0,reduceIte,reduceEqDiff]
    have e69:=qj hF51
    subst e69
    have hk25':=hk25
    dsimp only [jnO] at hk25'
    apply hR28
    have he:=qj hk25'
    subst he
    refine kc (qn (kr (bb:=b9) (oo:=0) (v := .agg [pv0_0,pv0_1,
      .int .i64 v_0.Next]) (rfl) ((z3 (Sep.bk _ _ _ hS68)).trans rfl)) (qn (ye (v := .int .i64 2) (rfl)) zg)) ?_
    exact ⟨pc0_0,pv0_1,pc0_1,by first | trivial | rfl,ph0_0,ph0_1,(Sep.m1 (Sep.m1 (Sep.dc ((Sep.dc (hS68))))))⟩
   rw [iteF hc66] at hF51
   simp only [ze,q1y,qf,qo,qb,Nat.reduceAdd,Nat.zero_add,Nat.add_zero,q9,ql,B0,reduceIte,reduceEqDiff]
   refine qi (v:=pv0_0) ((z5 (Sep.bk _ _ _ (Sep.m1 hS61))).trans rfl) ?_
   simp only [qo,qb,Nat.reduceAdd,Nat.zero_add,Nat.add_zero,qq,ql,B0,reduceIte,reduceEqDiff]
   refine qi (v := .int .i64 v_1.Broker) rfl ?_
   simp only [jb,B0,reduceIte,reduceEqDiff]
   refine qi (SlF.ia ph0_0 hb53 hx50) ?_
   simp only [qo,qb,Nat.reduceAdd,Nat.zero_add,Nat.add_zero,q9,zl,B0,reduceIte,reduceEqDiff]
   refine qds (f:=qe) (x':=(Broker.mk x49.Epoch 9 x49.Fenced)) (o:=1) ph0_0 (Sep.m2 hS61) hW hb53 hx50 (fun _=>rfl) rfl rfl (nle rfl) rfl
     (fun c72 h70 hv73 hS71=>?_)
   have hx74:=ym (x':=(Broker.mk x49.Epoch 9 x49.Fenced)) hx50
   simp only [qa,qk,B0,reduceIte,reduceEqDiff]
   have e75:=qj hF51
   exact hN27 _ _ ⟨_,e75.symm,pv0_1,pc0_1,c72,rfl,rfl,ph0_1,hv73,(Sep.m3 (Sep.m2 (Sep.m1 (Sep.m3 hS71))))⟩
  rw [iteF hc48] at hX24
  simp only [qvg,qh,qf,qv,qb,z4,qg,qa,qrq,qy,B0,reduceIte,reduceEqDiff]
  refine qw (t:=(decide (v_1.Kind=3))) (fun hc76=>?_) (fun hc76=>?_)
  ·rw [iteT hc76] at hX24
   simp only [qpi,qh,qf,qo,qb,Nat.reduceAdd,Nat.zero_add,Nat.add_zero,q9,ql,B0,reduceIte,reduceEqDiff]
   refine qi (v:=pv0_0) ((z5 (Sep.bk _ _ _ (Sep.m1 hS14))).trans rfl) ?_
   simp only [zr,qb,SlF.plen ph0_0,qg,qa,B0,reduceIte,reduceEqDiff]
   obtain ⟨oc85,hX87,hk88⟩:=jd hX24
   simp only [qvd]
   refine wc (σ:=(List Broker)) (fun i83 s118=>qb4 i83 s118) (fun s fr' h'=>∃ c81,
     fr' 2 = .ptr b1 0∧fr' 4 = .ptr b9 0∧SlF qe 3 86 pv0_0 s c81∧Sep h' lo ([Blk1 b1 [pv0_0,pv0_1,.int .i64 v_0.Next] 29]++([Blk1 b9 [.nil,.nil,
     .int .i64 0] 29]++(c81++(pc0_1++(S0)))))) hX87 ⟨pc0_0,rfl,rfl,ph0_0,(Sep.m3 (Sep.m2 (Sep.m3 (Sep.m3 hS14))))⟩ (by simp only [B0,reduceIte,
     reduceEqDiff]) (by simp only [B0,reduceIte,reduceEqDiff]) (fun _ _ _ h=>h) rfl rfl (fun _ _ _ _ h=>h) (fun _ _ _ _ h=>h) (fun _ _ _ _ h=>h) (by decide) ?_ ?_
   ·rintro i83 s80 fr97 h98 hx102 ⟨c81,f100,f101,hv82,hS99⟩ f103 f104 oc86 hF89 hr90 Q91 hN92 hB96 hK93 hR94 hE95
    unfold qb4 at hF89
    simp only [qo8,qh,qf,f103,qg,qa,qrw,f100,qo,qb,Nat.reduceAdd,Nat.zero_add,Nat.add_zero,q9,ql,B0,reduceIte,
      reduceEqDiff]
    refine qi (v:=pv0_0) ((z5 (Sep.bk _ _ _ hS99)).trans rfl) ?_
    obtain ⟨x105,hx106,hF107⟩:=qm hF89
    simp only [qg,jb,B0,reduceIte,reduceEqDiff]
    obtain ⟨b108,hb109⟩:=SlF.isrow hv82 (k8 hx106)
    refine qi (SlF.ia hv82 hb109 hx106) ?_
    simp only [qo,qb,Nat.reduceAdd,Nat.zero_add,Nat.add_zero,q9,ql,B0,reduceIte,reduceEqDiff]
    refine qi (v := .int .i64 x105.Left) ((SlF.ld (o:=1) hv82 (Sep.m2 hS99) hb109 hx106 (fun _=>rfl) (nle rfl)).trans rfl) ?_
    simp only [qv,qb,qet,qa,quf,qy,B0,reduceIte,reduceEqDiff]
    refine qw (t:=(decide ((0:Int)<x105.Left))) (fun hc110=>?_) (fun hc110=>?_)
    ·rw [iteT hc110] at hF107
     simp only [qsc,qf,f100,qo,qb,Nat.reduceAdd,Nat.zero_add,Nat.add_zero,q9,ql,B0,reduceIte,reduceEqDiff]
     refine qi (v:=pv0_0) ((z5 (Sep.bk _ _ _ hS99)).trans rfl) ?_
     simp only [qg,jb,B0,reduceIte,reduceEqDiff]
     refine qi (SlF.ia hv82 hb109 hx106) ?_
     simp only [qo,qb,Nat.reduceAdd,Nat.zero_add,Nat.add_zero,q9,ql,B0,reduceIte,reduceEqDiff]
     refine qi (v := .int .i64 x105.Left) ((SlF.ld (o:=1) hv82 (Sep.m2 hS99) hb109 hx106 (fun _=>rfl) (nle rfl)).trans rfl) ?_
     simp only [qv,qb,qf7,jb,B0,reduceIte,reduceEqDiff]
     refine qi (SlF.ia hv82 hb109 hx106) ?_
     simp only [qo,qb,Nat.reduceAdd,Nat.zero_add,Nat.add_zero,q9,zl,B0,reduceIte,reduceEqDiff]
     refine qds (f:=qe) (x':=(Broker.mk x105.Epoch (IntKind.wrap .i64 (x105.Left - 1)) x105.Fenced)) (o:=1) hv82 (Sep.m2 hS99) hW hb109 hx106
       (fun _=>rfl) rfl rfl (nle rfl) rfl (fun c113 h111 hv114 hS112=>?_)
     have hx115:=ym (x':=(Broker.mk x105.Epoch (IntKind.wrap .i64 (x105.Left - 1)) x105.Fenced)) hx106
     simp only [qa,qk,B0,reduceIte,reduceEqDiff]
     have e116:=qj hF107
     exact hN92 _ _ _ e116.symm ⟨c113,f100,f101,hv114,(Sep.m3 (Sep.m3 (Sep.m1 (Sep.m3 hS112))))⟩ (f103) (f104)
    rw [iteF hc110] at hF107
    simp only [ze,qk,B0,reduceIte,reduceEqDiff]
    have e117:=qj hF107
    exact hN92 _ _ _ e117.symm ⟨c81,f100,f101,hv82,(Sep.m3 (Sep.m3 (Sep.m3 (Sep.m3 hS99))))⟩ (f103) (f104)
   rintro s119 fr122 h123 rfl ⟨c120,f125,f126,hv121,hS124⟩
   dsimp only [jnO] at hk88
   unfold qh3 at hk88
   simp only [qk,B0,reduceIte,reduceEqDiff]
   have e127:=qj hk88
   exact hN27 _ _ ⟨_,e127.symm,pv0_1,pc0_1,c120,f125,f126,ph0_1,hv121,(Sep.m3 (Sep.m3 (Sep.m3 (Sep.m3 hS124))))⟩
  rw [iteF hc76] at hX24
  simp only [qta,qh,qf,qv,qb,z4,qg,qa,quw,qy,B0,reduceIte,reduceEqDiff]
  refine qw (t:=(decide (v_1.Kind=4))) (fun hc129=>?_) (fun hc129=>?_)
  ·rw [iteT hc129] at hX24
   simp only [qpe,qh,qf,qo,qb,Nat.reduceAdd,Nat.zero_add,Nat.add_zero,qq,ql,B0,reduceIte,reduceEqDiff]
   refine qi (v:=lst cI v_1.InStep) rfl ?_
   simp only [zr,qb,zx,qv,z4,qg,B0,reduceIte,reduceEqDiff]
   refine zu 5 (fun fr' h'=>Sep h' lo ([Blk1 b1 [pv0_0,pv0_1,.int .i64 v_0.Next] 29]++([Blk1 b9 [.nil,.nil,
     .int .i64 0] 29]++(pc0_0++(pc0_1++(S0)))))∧fr' 90 = .bool ((decide ((List.length v_1.InStep:Int)=0))||(decide
     ((List.length v_0.Parts:Int)=5)))∧fr' 2 = .ptr b1 0∧fr' 3 = .ref [.int .i64 v_1.Kind,.int .i64 v_1.Broker,.int .i64 v_1.Epoch,.int .i64 v_1.Part,
     .int .i64 v_1.Stamp,lst cI v_1.InStep] 0∧fr' 4 = .ptr b9 0) (fun Q130 hN131=>?_) ?_
   ·simp only [List.take_succ_cons,List.take_zero]
    simp only [qc (g:=85),B0,reduceIte,reduceEqDiff]
    refine qx (t:=(decide ((List.length v_1.InStep:Int)=0))) (fun hg132=>?_) (fun hg132=>?_)
    ·simp only [hg132,qc (g:=85),zq,qr,qb,zh,qa,qk,B0,reduceIte,reduceEqDiff]
     exact hN131 _ _ ⟨(Sep.m3 (Sep.m2 (Sep.m3 (Sep.m3 hS14)))),by rw [orT hg132]; simp only [B0,reduceIte,reduceEqDiff],rfl,rfl,rfl⟩
    ·simp only [hg132,qc (g:=85),qp,qo,qb,Nat.reduceAdd,Nat.zero_add,Nat.add_zero,q9,ql,B0,reduceIte,reduceEqDiff]
     refine qi (v:=pv0_1) ((z5 (Sep.bk _ _ _ (Sep.m1 hS14))).trans rfl) ?_
     simp only [hg132,qc (g:=85),qp,zr,qb,SlN.len ph0_1,qv,z4,qr,zi,qa,qk,B0,reduceIte,
       reduceEqDiff]
     exact hN131 _ _ ⟨(Sep.m3 (Sep.m2 (Sep.m3 (Sep.m3 hS14)))),by rw [orF hg132]; simp only [B0,reduceIte,reduceEqDiff],rfl,rfl,rfl⟩
   rintro fr133 h138 ⟨hS139,f134,f135,f136,f137⟩
   simp only [List.drop_succ_cons,List.drop_zero]
   simp only [qa,qqu,f134,qy,B0,reduceIte,reduceEqDiff]
   refine qw (t:=((decide ((List.length v_1.InStep:Int)=0))||(decide ((List.length v_0.Parts:Int)=5)))) (fun hc140=>?_) (fun hc140=>?_)
   ·rw [iteT hc140] at hX24
    simp only [qh,qf,f135,ql,B0,reduceIte,reduceEqDiff]
    refine qi (v := .agg [pv0_0,pv0_1,.int .i64 v_0.Next]) ((z3 (Sep.bk _ _ _ hS139)).trans rfl) ?_
    simp only [f137,zl,B0,reduceIte,reduceEqDiff]
    refine zf (us:=[pv0_0,pv0_1,.int .i64 v_0.Next]) rfl (cs':=[pv0_0,pv0_1,
      .int .i64 v_0.Next]) (Sep.m1 hS139) hW rfl (qs (SlF.one ph0_0) (qs (SlN.one ph0_1) (qs rfl zt))) (nle rfl) rfl (fun h141 hS142=>?_)
    simp only [qg,qa,q8,B0,reduceIte,reduceEqDiff]
    have e143:=qj hX24
    subst e143
    have hk25':=hk25
    dsimp only [jnO] at hk25'
    apply hR28
    have he:=qj hk25'
    subst he
    refine kc (qn (kr (bb:=b9) (oo:=0) (v := .agg [pv0_0,pv0_1,
      .int .i64 v_0.Next]) (f137) ((z3 (Sep.bk _ _ _ hS142)).trans rfl)) (qn (ye (v := .int .i64 4) (rfl)) zg)) ?_
    exact ⟨pc0_0,pv0_1,pc0_1,by first | trivial | rfl,ph0_0,ph0_1,(Sep.m1 (Sep.m1 (Sep.dc ((Sep.dc (hS142))))))⟩
   rw [iteF hc140] at hX24
   simp only [ze,qu0,jo,qbv,evp,B0,reduceIte,reduceEqDiff]
   refine qac (n:=1) (f:=cI) ([] : List Int) hS139 rfl rfl (fun v145 c146 h147 hv148 hS149 hq144=>?_)
   simp only [f136,z8,qt,Nat.reduceAdd,Nat.zero_add,Nat.add_zero,qq,z2,B0,reduceIte,reduceEqDiff]
   refine zd (v:=lst cI v_1.InStep) rfl ?_
   simp only [qk4,evp,B0,reduceIte,reduceEqDiff]
   refine qh5 (n:=1) (f:=cI) ([] : List Int) hS149 rfl rfl (fun v151 c152 h153 hv154 hS155=>?_)
   simp only [f136,qdo,qt,Nat.reduceAdd,Nat.zero_add,Nat.add_zero,qq,qcc,qbq,B0,reduceIte,reduceEqDiff]
   refine zd (v:=lst cI v_1.InStep) rfl ?_
   simp only [f135,qdo,qt,Nat.reduceAdd,Nat.zero_add,Nat.add_zero,q9,qcc,B0,reduceIte,reduceEqDiff]
   refine qkj (Sep.ltk hS139) ?_
   refine zd (v:=pv0_1) ((z5 (Sep.bk _ _ _ (Sep.m2 hS155))).trans rfl) ?_
   simp only [qdy,B0,reduceIte,reduceEqDiff]
   obtain ⟨l157,hx158,hF159⟩:=qm hX24
   have hq160:=nwq (fun z hz=>Sep.dj (Sep.m2 (Sep.m2 hS155)) qbn (SlF.rowfp hv148 z hz))
   have hq161:=nwq (fun z hz=>Sep.dj (Sep.m2 (Sep.m3 hS155)) qbn (SlF.rowfp hv148 z hz))
   refine qgt (qik (fun z hz=>Sep.dj (Sep.m2 (Sep.m2 hS155)) qbn (SlF.rowfp hv148 z hz)) qfi) ?_
   refine qaw (f:=cI) hv148 (Sep.m1 hS155) hW (fun _=>rfl) (fun _=>rfl) (yv (fun _=>rfl)) hx158 (fun v162 c163 h164 hv165 hS166=>?_)
   simp only [qdy,B0,reduceIte,reduceEqDiff]
   obtain ⟨l168,hx169,hF170⟩:=qm hF159
   have hq171:=nwq (fun z hz=>Sep.dj (Sep.m2 (Sep.m2 hS166)) qbn (SlF.rowfp hv154 z hz))
   have hq172:=nwq (fun z hz=>Sep.dj (Sep.m2 (Sep.m3 hS166)) qbn (SlF.rowfp hv154 z hz))
   refine qgt (qik (fun z hz=>Sep.dj (Sep.m2 (Sep.m2 hS166)) qbn (SlF.rowfp hv154 z hz)) qfi) ?_
   refine qaw (f:=cI) hv154 (Sep.m1 hS166) hW (fun _=>rfl) (fun _=>rfl) (yv (fun _=>rfl)) hx169 (fun v173 c174 h175 hv176 hS177=>?_)
   simp only [qhd,evp,B0,reduceIte,reduceEqDiff]
   refine zd (v := .agg [v162,v173,.int .i64 (-2),.int .i64 0,.int .i64 0]) (qdf (u7 (us:=[v162]) (vs:=[v162,.nil,.int .i64 0,.int .i64 0,
     .int .i64 0]) (kd (SlF.one hv165)) rfl (nle rfl) (qs (SlF.one hv165) zt) rfl (u7 (us:=[v173]) (vs:=[v162,v173,.int .i64 0,.int .i64 0,
     .int .i64 0]) (kd (SlF.one hv176)) rfl (nle rfl) (qs (SlF.one hv176) zt) rfl (u7 (us:=[.int .i64 (-2)]) (vs:=[v162,v173,.int .i64 (-2),
     .int .i64 0,.int .i64 0]) rfl rfl (nle rfl) rfl rfl qe3)))) ?_
   simp only [qbv,evp,B0,reduceIte,reduceEqDiff]
   refine qh2 (R:=Partition.R) (n:=5) (cs:=[v162,v173,.int .i64 (-2),.int .i64 0,
     .int .i64 0]) (os:=c163++(c174)) (Sep.bi2 (c1:=c163) (c2:=c174) (Sep.m1 hS177)) (u7 (us:=[v162,v173,.int .i64 (-2),.int .i64 0,
     .int .i64 0]) (vs:=[v162,v173,.int .i64 (-2),.int .i64 0,
     .int .i64 0]) rfl rfl (nle rfl) (qs (SlF.one hv165) (qs (SlF.one hv176) (qs rfl (qs rfl (qs rfl zt))))) rfl qe3) (Partition.RI (x :=
     (Partition.mk l157 l168 (-2) 0 0)) hv165 hv176) rfl (fun v179 c180 h181 hv182 hS183=>?_)
   simp only [qpn,B0,reduceIte,reduceEqDiff]
   obtain ⟨l185,hx186,hF187⟩:=qm hF170
   refine qjs (R:=Partition.R) (c:=pc0_1) ph0_1 hv182 (Sep.m4 hS183) hW Partition.RO.len Partition.RO.one hx186 (fun v188 c189 h190 hv191 hS192=>?_)
   simp only [f135,z8,qt,Nat.reduceAdd,Nat.zero_add,Nat.add_zero,q9,qdj,B0,reduceIte,reduceEqDiff]
   refine qc1 (us:=[v188]) (kd (SlN.one hv191)) (cs':=[pv0_0,v188,
     .int .i64 v_0.Next]) (Sep.m1 hS192) hW rfl (qs (SlN.one hv191) zt) (nle rfl) rfl (fun h194 hS195=>?_)
   simp only [zm,qk,B0,reduceIte,reduceEqDiff]
   have e196:=qj hF187
   exact hN27 _ _ ⟨_,e196.symm,v188,c189,pc0_0,f135,f137,hv191,ph0_0,(Sep.m3 (Sep.m3 (Sep.m3 (Sep.m1 hS195))))⟩
  rw [iteF hc129] at hX24
  simp only [qqn,qh,qf,qv,qb,z4,qg,qa,qro,qy,B0,reduceIte,reduceEqDiff]
  refine qw (t:=(decide (v_1.Kind=5))) (fun hc197=>?_) (fun hc197=>?_)
  ·rw [iteT hc197] at hX24
   simp only [qvz,qh,qf,ql,B0,reduceIte,reduceEqDiff]
   refine qi (v := .agg [pv0_0,pv0_1,.int .i64 v_0.Next]) ((z3 (Sep.bk _ _ _ (Sep.m1 hS14))).trans rfl) ?_
   simp only [ql,B0,reduceIte,reduceEqDiff]
   refine qi (v := .agg [.int .i64 v_1.Kind,.int .i64 v_1.Broker,.int .i64 v_1.Epoch,.int .i64 v_1.Part,.int .i64 v_1.Stamp,lst cI v_1.InStep]) rfl ?_
   obtain ⟨v198,hx199,hF200⟩:=qm hX24
   simp only [zb,B0,reduceIte,reduceEqDiff]
   refine jc rfl (qn (jf (qn (SlF.snap ph0_0 (Sep.m2 hS14) rfl (fun _=>rfl) (fun _=>rfl)) (qn (SlN.snap ph0_1 _ (Sep.m3 hS14) rfl Partition.RO)
     (qn qu zg)))) (qn (jf (qn qu (qn qu (qn qu (qn qu (qn qu (qn zo zg))))))) zg))
     (qj6 (fun b hb=>decide_eq_true hb) v_0 v_1 v198 hx199) ?_
   simp only [qg,qa,qre,qh,qf,qv,qb,ue,qtg,qy,B0,reduceIte,reduceEqDiff]
   refine qw (t:=(decide (v198≠0))) (fun hc201=>?_) (fun hc201=>?_)
   ·rw [iteT hc201] at hF200
    simp only [qun,qh,qf,ql,B0,reduceIte,reduceEqDiff]
    refine qi (v := .agg [pv0_0,pv0_1,.int .i64 v_0.Next]) ((z3 (Sep.bk _ _ _ (Sep.m1 hS14))).trans rfl) ?_
    simp only [qg,zl,B0,reduceIte,reduceEqDiff]
    refine zf (us:=[pv0_0,pv0_1,.int .i64 v_0.Next]) rfl (cs':=[pv0_0,pv0_1,
      .int .i64 v_0.Next]) hS14 hW rfl (qs (SlF.one ph0_0) (qs (SlN.one ph0_1) (qs rfl zt))) (nle rfl) rfl (fun h202 hS203=>?_)
    simp only [qg,qa,q8,B0,reduceIte,reduceEqDiff]
    have e204:=qj hF200
    subst e204
    have hk25':=hk25
    dsimp only [jnO] at hk25'
    apply hR28
    have he:=qj hk25'
    subst he
    refine kc (qn (kr (bb:=b9) (oo:=0) (v := .agg [pv0_0,pv0_1,
      .int .i64 v_0.Next]) (rfl) ((z3 (Sep.bk _ _ _ hS203)).trans rfl)) (qn (ye (v := .int .i64 v198) (rfl)) zg)) ?_
    exact ⟨pc0_0,pv0_1,pc0_1,by first | trivial | rfl,ph0_0,ph0_1,(Sep.m1 (Sep.m1 (Sep.dc ((Sep.dc (hS203))))))⟩
   rw [iteF hc201] at hF200
   simp only [ze,qus,qh,jo,qdo,qt,Nat.reduceAdd,Nat.zero_add,Nat.add_zero,q9,qcc,B0,reduceIte,reduceEqDiff]
   refine qkj (Sep.ltk (Sep.m1 hS14)) ?_
   refine zd (v:=pv0_1) ((z5 (Sep.bk _ _ _ (Sep.m1 hS14))).trans rfl) ?_
   simp only [qdo,qt,Nat.reduceAdd,Nat.zero_add,Nat.add_zero,qq,qcc,qbq,B0,reduceIte,reduceEqDiff]
   refine zd (v := .int .i64 v_1.Part) rfl ?_
   simp only [qbv,evp,B0,reduceIte,reduceEqDiff]
   refine qac (n:=1) (f:=cI) ([] : List Int) hS14 rfl rfl (fun v206 c207 h208 hv209 hS210 hq205=>?_)
   simp only [z8,qt,Nat.reduceAdd,Nat.zero_add,Nat.add_zero,qq,z2,B0,reduceIte,reduceEqDiff]
   refine zd (v:=lst cI v_1.InStep) rfl ?_
   simp only [qdy,B0,reduceIte,reduceEqDiff]
   obtain ⟨l212,hx213,hF214⟩:=qm hF200
   have hq215:=nwq (fun z hz=>Sep.dj (Sep.m1 (Sep.m1 hS210)) qbn (SlF.rowfp hv209 z hz))
   have hq216:=nwq (fun z hz=>Sep.dj (Sep.m1 (Sep.m2 hS210)) qbn (SlF.rowfp hv209 z hz))
   refine qgt (qik (fun z hz=>Sep.dj (Sep.m1 (Sep.m2 hS210)) qbn (SlF.rowfp hv209 z hz)) qfi) ?_
   refine qaw (f:=cI) hv209 hS210 hW (fun _=>rfl) (fun _=>rfl) (yv (fun _=>rfl)) hx213 (fun v217 c218 h219 hv220 hS221=>?_)
   obtain ⟨x223,hx224,hF225⟩:=qm hF214
   simp only [qam,B0,reduceIte,reduceEqDiff]
   obtain ⟨b226,hb227⟩:=SlN.isrow ph0_1 (k8 hx224)
   refine zd (SlN.ia ph0_1 hb227 hx224) ?_
   obtain ⟨c230,cs231,os232,hv233,hR234,hS235⟩:=SlG.opn (SlN.toG ph0_1 hb227 Partition.RO.len) hx224 jr Partition.RO.len (Sep.m4 hS221)
   obtain ⟨v237,c238,v241,c242,hv239,hv243,rfl,rfl⟩:=hR234
   have hS236:=Sep.no2 hS235
   simp only [z8,qt,Nat.reduceAdd,Nat.zero_add,Nat.add_zero,q9,qdj,B0,reduceIte,reduceEqDiff]
   refine qhl (n:=5) (us:=[v217]) (cs:=[v237,v241,.int .i64 x223.Leader,.int .i64 x223.Epoch,.int .i64 x223.Stamp]) (o:=1) (cs':=[v237,v217,
     .int .i64 x223.Leader,.int .i64 x223.Epoch,
     .int .i64 x223.Stamp]) (kd (SlF.one hv220)) hv233 rfl hx224 hS236 hW rfl (qs (SlF.one hv220) zt) (nle rfl) rfl (fun c245 h228 hv246 hS229=>?_)
   simp only [zm,qr8,qf,qo,qb,Nat.reduceAdd,Nat.zero_add,Nat.add_zero,q9,ql,B0,reduceIte,reduceEqDiff]
   refine qi (v:=pv0_1) ((z5 (Sep.bk _ _ _ (Sep.m5 hS229))).trans rfl) ?_
   simp only [qo,qb,Nat.reduceAdd,Nat.zero_add,Nat.add_zero,qq,ql,B0,reduceIte,reduceEqDiff]
   refine qi (v := .int .i64 v_1.Part) rfl ?_
   simp only [jb,B0,reduceIte,reduceEqDiff]
   refine qi (SlG.ia hv246 hx224) ?_
   simp only [qo,qb,Nat.reduceAdd,Nat.zero_add,Nat.add_zero,q9,ql,B0,reduceIte,reduceEqDiff]
   refine qi (v := .int .i64 x223.Stamp) ((SlG.ld (o:=4) hv246 rfl hx224 hS229 (nle rfl)).trans rfl) ?_
   simp only [qv,qb,qaq,jb,B0,reduceIte,reduceEqDiff]
   refine qi (SlG.ia hv246 hx224) ?_
   simp only [qo,qb,Nat.reduceAdd,Nat.zero_add,Nat.add_zero,q9,zl,B0,reduceIte,reduceEqDiff]
   refine qcm (n:=5) (us:=[.int .i64 (IntKind.wrap .i64 (x223.Stamp+1))]) (cs:=[v237,v217,.int .i64 x223.Leader,.int .i64 x223.Epoch,
     .int .i64 x223.Stamp]) (o:=4) (cs':=[v237,v217,.int .i64 x223.Leader,.int .i64 x223.Epoch,
     .int .i64 (IntKind.wrap .i64 (x223.Stamp+1))]) rfl hv246 rfl hx224 hS229 hW rfl rfl (nle rfl) rfl (fun c249 h247 hv250 hS248=>?_)
   simp only [qa,qk,B0,reduceIte,reduceEqDiff]
   obtain ⟨c251,hv252,hS253⟩:=SlG.cls (e':=(Partition.mk x223.Homes l212 x223.Leader x223.Epoch (IntKind.wrap .i64 (x223.Stamp+1)))) (c:=c249) (os:=c238 ++
     (c218)) hv250 rfl hx224 jr (Partition.RI (x:=(Partition.mk x223.Homes l212 x223.Leader x223.Epoch (IntKind.wrap .i64 (x223.Stamp+1)))) hv239 hv220) (Sep.ni2
     (c1:=c238) (c2:=c218) (Sep.m2 (Sep.m2 (Sep.m3 hS248))))
   have hx254:=ym (x':=(Partition.mk x223.Homes l212 x223.Leader x223.Epoch (IntKind.wrap .i64 (x223.Stamp+1)))) hx224
   have hv255:=SlG.toN hv252
   have e256:=qj hF225
   exact hN27 _ _ ⟨_,e256.symm,pv0_1,c251,pc0_0,rfl,rfl,hv255,ph0_0,(Sep.m3 (Sep.m2 (Sep.m3 (Sep.dc (Sep.m1 hS253)))))⟩
  rw [iteF hc197] at hX24
  simp only [qvb,qh,qf,qv,qb,z4,qg,qa,qt8,qy,B0,reduceIte,reduceEqDiff]
  refine qw (t:=(decide (v_1.Kind=6))) (fun hc257=>?_) (fun hc257=>?_)
  ·rw [iteT hc257] at hX24
   simp only [qvp,qh,qf,qo,qb,Nat.reduceAdd,Nat.zero_add,Nat.add_zero,qq,ql,B0,reduceIte,reduceEqDiff]
   refine qi (v := .int .i64 v_1.Part) rfl ?_
   simp only [qo,qb,Nat.reduceAdd,Nat.zero_add,Nat.add_zero,q9,ql,B0,reduceIte,reduceEqDiff]
   refine qi (v:=pv0_1) ((z5 (Sep.bk _ _ _ (Sep.m1 hS14))).trans rfl) ?_
   simp only [zr,qb,SlN.len ph0_1,qv,qby,qa,qrg,qy,B0,reduceIte,reduceEqDiff]
   refine qw (t:=(decide ((List.length v_0.Parts:Int)≤v_1.Part))) (fun hc258=>?_) (fun hc258=>?_)
   ·rw [iteT hc258] at hX24
    simp only [qh,qf,ql,B0,reduceIte,reduceEqDiff]
    refine qi (v := .agg [pv0_0,pv0_1,.int .i64 v_0.Next]) ((z3 (Sep.bk _ _ _ (Sep.m1 hS14))).trans rfl) ?_
    simp only [zl,B0,reduceIte,reduceEqDiff]
    refine zf (us:=[pv0_0,pv0_1,.int .i64 v_0.Next]) rfl (cs':=[pv0_0,pv0_1,
      .int .i64 v_0.Next]) hS14 hW rfl (qs (SlF.one ph0_0) (qs (SlN.one ph0_1) (qs rfl zt))) (nle rfl) rfl (fun h259 hS260=>?_)
    simp only [qg,qa,q8,B0,reduceIte,reduceEqDiff]
    have e261:=qj hX24
    subst e261
    have hk25':=hk25
    dsimp only [jnO] at hk25'
    apply hR28
    have he:=qj hk25'
    subst he
    refine kc (qn (kr (bb:=b9) (oo:=0) (v := .agg [pv0_0,pv0_1,
      .int .i64 v_0.Next]) (rfl) ((z3 (Sep.bk _ _ _ hS260)).trans rfl)) (qn (ye (v := .int .i64 1) (rfl)) zg)) ?_
    exact ⟨pc0_0,pv0_1,pc0_1,by first | trivial | rfl,ph0_0,ph0_1,(Sep.m1 (Sep.m1 (Sep.dc ((Sep.dc (hS260))))))⟩
   rw [iteF hc258] at hX24
   simp only [ze,qsg,qh,jo,z8,qt,Nat.reduceAdd,Nat.zero_add,Nat.add_zero,q9,z2,B0,reduceIte,reduceEqDiff]
   refine zd (v:=pv0_1) ((z5 (Sep.bk _ _ _ (Sep.m1 hS14))).trans rfl) ?_
   simp only [z8,qt,Nat.reduceAdd,Nat.zero_add,Nat.add_zero,qq,z2,B0,reduceIte,reduceEqDiff]
   refine zd (v := .int .i64 v_1.Part) rfl ?_
   obtain ⟨x262,hx263,hF264⟩:=qm hX24
   simp only [qam,B0,reduceIte,reduceEqDiff]
   obtain ⟨b265,hb266⟩:=SlN.isrow ph0_1 (k8 hx263)
   refine zd (SlN.ia ph0_1 hb266 hx263) ?_
   obtain ⟨c267,cs268,os269,hv270,hR271,hS272⟩:=SlG.opn (SlN.toG ph0_1 hb266 Partition.RO.len) hx263 jr Partition.RO.len (Sep.m3 hS14)
   obtain ⟨v274,c275,v278,c279,hv276,hv280,rfl,rfl⟩:=hR271
   have hS273:=Sep.no2 hS272
   simp only [z8,qt,Nat.reduceAdd,Nat.zero_add,Nat.add_zero,q9,z2,B0,reduceIte,reduceEqDiff]
   refine zd (v:=v278) ((SlG.ld (o:=1) hv270 rfl hx263 hS273 (nle rfl)).trans rfl) ?_
   simp only [z8,qt,Nat.reduceAdd,Nat.zero_add,Nat.add_zero,qq,z2,B0,reduceIte,reduceEqDiff]
   refine zd (v := .int .i64 v_1.Broker) rfl ?_
   obtain ⟨v282,hx283,hF284⟩:=qm hF264
   simp only [xz,B0,reduceIte,reduceEqDiff]
   refine qf6 rfl (qn (SlF.snap hv280 (Sep.m2 hS273) rfl (fun _=>rfl) (fun _=>rfl)) (qn qu zg)) (qct
     (fun b hb=>decide_eq_true hb) x262.InStep v_1.Broker v282 hx283) ?_
   simp only [qgv,qt,jq,jl,B0,reduceIte,reduceEqDiff]
   obtain ⟨v288,hx289,hF290⟩:=qm hF284
   refine qie 8 (fun fr' h'=>Sep h' lo ([Blk1 b1 [pv0_0,pv0_1,.int .i64 v_0.Next] 29]++([Blk1 b9 [.nil,.nil,
     .int .i64 0] 29]++(pc0_0++(c267++(c275++(c279++(S0)))))))∧fr' 163 = .bool v288∧fr' 2 = .ptr b1 0∧fr' 3 = .ref [.int .i64 v_1.Kind,.int .i64 v_1.Broker,
     .int .i64 v_1.Epoch,.int .i64 v_1.Part,.int .i64 v_1.Stamp,lst cI v_1.InStep] 0∧fr' 4 = .ptr b9 0) rfl (fun Q285 hN286=>?_) ?_
   ·simp only [List.take_succ_cons,List.take_zero]
    simp only [zk (g:=155),B0,reduceIte,reduceEqDiff]
    refine yk (t:=(!v282)) (fun hg287=>?_) (fun hg287=>?_)
    ·rw [iteT hg287] at hx289
     simp only [hg287,zk (g:=155),wx,yj,qt,zh,zm,qk,B0,reduceIte,reduceEqDiff]
     have e291:=qj hx289
     exact hN286 _ _ ⟨(Sep.m5 (Sep.m4 (Sep.m5 (Sep.m2 (Sep.m2 (Sep.m2 hS273)))))),by rw [←e291]; simp only [B0,reduceIte,reduceEqDiff],rfl,rfl,rfl⟩
    ·rw [iteF hg287] at hx289
     simp only [hg287,zk (g:=155),z0,z8,qt,Nat.reduceAdd,Nat.zero_add,Nat.add_zero,q9,z2,B0,reduceIte,reduceEqDiff]
     refine zd (v:=pv0_0) ((z5 (Sep.bk _ _ _ (Sep.m4 hS273))).trans rfl) ?_
     simp only [hg287,zk (g:=155),z0,z8,qt,Nat.reduceAdd,Nat.zero_add,Nat.add_zero,qq,z2,B0,reduceIte,reduceEqDiff]
     refine zd (v := .int .i64 v_1.Broker) rfl ?_
     obtain ⟨x292,hx293,hF294⟩:=qm hx289
     simp only [hg287,zk (g:=155),z0,qam,B0,reduceIte,reduceEqDiff]
     obtain ⟨b295,hb296⟩:=SlF.isrow ph0_0 (k8 hx293)
     refine zd (SlF.ia ph0_0 hb296 hx293) ?_
     simp only [hg287,zk (g:=155),z0,z8,qt,Nat.reduceAdd,Nat.zero_add,Nat.add_zero,q9,z2,B0,reduceIte,reduceEqDiff]
     refine zd (v := .bool x292.Fenced) ((SlF.ld (o:=2) ph0_0 (Sep.m5 hS273) hb296 hx293 (fun _=>rfl) (nle rfl)).trans rfl) ?_
     simp only [hg287,yj,qt,zi,zm,qk,B0,reduceIte,reduceEqDiff]
     have e297:=qj hF294
     exact hN286 _ _ ⟨(Sep.m5 (Sep.m4 (Sep.m5 (Sep.m2 (Sep.m2 (Sep.m2 hS273)))))),by rw [←e297]; simp only [B0,reduceIte,reduceEqDiff],rfl,rfl,rfl⟩
   rintro fr298 h303 ⟨hS304,f299,f300,f301,f302⟩
   simp only [List.drop_succ_cons,List.drop_zero]
   simp only [zm,qtx,f299,qy,B0,reduceIte,reduceEqDiff]
   refine qw (t:=v288) (fun hc305=>?_) (fun hc305=>?_)
   ·rw [iteT hc305] at hF290
    simp only [qh,qf,f300,ql,B0,reduceIte,reduceEqDiff]
    refine qi (v := .agg [pv0_0,pv0_1,.int .i64 v_0.Next]) ((z3 (Sep.bk _ _ _ hS304)).trans rfl) ?_
    simp only [f302,zl,B0,reduceIte,reduceEqDiff]
    refine zf (us:=[pv0_0,pv0_1,.int .i64 v_0.Next]) rfl (cs':=[pv0_0,pv0_1,
      .int .i64 v_0.Next]) (Sep.m1 hS304) hW rfl (qs (SlF.one ph0_0) (qs (SlG.one hv270) (qs rfl zt))) (nle rfl) rfl (fun h306 hS307=>?_)
    simp only [qg,qa,q8,B0,reduceIte,reduceEqDiff]
    have e308:=qj hF290
    subst e308
    have hk25':=hk25
    dsimp only [jnO] at hk25'
    apply hR28
    obtain ⟨c309,hv310,hS311⟩:=SlG.cls0 (c:=c267) (os:=c275++(c279)) hv270 rfl hx263 jr (Partition.RI (x:=x262) hv276 hv280) (Sep.ni2 (c1:=c275)
      (c2:=c279) (Sep.m5 (Sep.m5 (Sep.m5 hS307))))
    have hv312:=SlG.toN hv310
    have he:=qj hk25'
    subst he
    refine kc (qn (kr (bb:=b9) (oo:=0) (v := .agg [pv0_0,pv0_1,
      .int .i64 v_0.Next]) (f302) ((z3 (Sep.bk _ _ _ (Sep.m1 hS311))).trans rfl)) (qn (ye (v := .int .i64 4) (rfl)) zg)) ?_
    exact ⟨pc0_0,pv0_1,c309,by first | trivial | rfl,ph0_0,hv312,(Sep.m1 (Sep.dc (Sep.m1 (Sep.dc (Sep.m1 hS311)))))⟩
   rw [iteF hc305] at hF290
   simp only [ze,qru,qf,f300,qo,qb,Nat.reduceAdd,Nat.zero_add,Nat.add_zero,q9,ql,B0,reduceIte,reduceEqDiff]
   refine qi (v:=pv0_1) ((z5 (Sep.bk _ _ _ hS304)).trans rfl) ?_
   simp only [f301,qo,qb,Nat.reduceAdd,Nat.zero_add,Nat.add_zero,qq,ql,B0,reduceIte,reduceEqDiff]
   refine qi (v := .int .i64 v_1.Part) rfl ?_
   simp only [f301,qo,qb,Nat.reduceAdd,Nat.zero_add,Nat.add_zero,qq,ql,B0,reduceIte,reduceEqDiff]
   refine qi (v := .int .i64 v_1.Broker) rfl ?_
   simp only [jb,B0,reduceIte,reduceEqDiff]
   refine qi (SlG.ia hv270 hx263) ?_
   simp only [qo,qb,Nat.reduceAdd,Nat.zero_add,Nat.add_zero,q9,zl,B0,reduceIte,reduceEqDiff]
   refine qcm (n:=5) (us:=[.int .i64 v_1.Broker]) (cs:=[v274,v278,.int .i64 x262.Leader,.int .i64 x262.Epoch,.int .i64 x262.Stamp]) (o:=2) (cs':=[v274,
     v278,.int .i64 v_1.Broker,.int .i64 x262.Epoch,.int .i64 x262.Stamp]) rfl hv270 rfl hx263 (Sep.m3 hS304) hW rfl rfl (nle rfl) rfl (fun c315 h313 hv316 hS314=>?_)
   simp only [qa,qk,B0,reduceIte,reduceEqDiff]
   obtain ⟨c317,hv318,hS319⟩:=SlG.cls (e':=(Partition.mk x262.Homes x262.InStep v_1.Broker x262.Epoch x262.Stamp)) (c:=c315) (os:=c275 ++
     (c279)) hv316 rfl hx263 jr (Partition.RI (x:=(Partition.mk x262.Homes x262.InStep v_1.Broker x262.Epoch x262.Stamp)) hv276 hv280) (Sep.ni2 (c1:=c275)
     (c2:=c279) (Sep.m2 (Sep.m5 (Sep.m5 hS314))))
   have hx320:=ym (x':=(Partition.mk x262.Homes x262.InStep v_1.Broker x262.Epoch x262.Stamp)) hx263
   have hv321:=SlG.toN hv318
   have e322:=qj hF290
   exact hN27 _ _ ⟨_,e322.symm,pv0_1,c317,pc0_0,f300,f302,hv321,ph0_0,(Sep.m3 (Sep.m3 (Sep.m3 hS319)))⟩
  rw [iteF hc257] at hX24
  simp only [ze,qk,B0,reduceIte,reduceEqDiff]
  have e323:=qj hX24
  exact hN27 _ _ ⟨_,e323.symm,pv0_1,pc0_1,pc0_0,rfl,rfl,ph0_1,ph0_0,(Sep.m3 (Sep.m2 (Sep.m3 (Sep.m3 hS14))))⟩
 rintro fr324 h325 ⟨⟨s15,s20⟩,rfl,v17,c18,c21,f327,f328,hv19,hv22,hS326⟩
 dsimp only [jnO] at hk25
 dsimp only at *
 unfold qdl at hk25
 simp only [xd,qu3,qh,qf,f327,qo,qb,Nat.reduceAdd,Nat.zero_add,Nat.add_zero,q9,ql,B0,reduceIte,reduceEqDiff]
 refine qi (v:=pv0_0) ((z5 (Sep.bk _ _ _ hS326)).trans rfl) ?_
 simp only [zr,qb,SlF.plen hv22,qg,qa,B0,reduceIte,reduceEqDiff]
 obtain ⟨oc337,hX339,hk340⟩:=jd hk25
 simp only [qq6]
 refine wc (σ:=(List Broker)) (fun i335 s368=>qdn i335 s368) (fun s fr' h'=>∃ c333,
   fr' 2 = .ptr b1 0∧fr' 4 = .ptr b9 0∧SlF qe 3 86 pv0_0 s c333∧Sep h' lo ([Blk1 b1 [pv0_0,v17,.int .i64 s15.Next] 29]++([Blk1 b9 [.nil,.nil,
   .int .i64 0] 29]++(c333++(c18++(S0)))))) hX339 ⟨c21,f327,f328,hv22,(Sep.m3 (Sep.m3 (Sep.m3 (Sep.m3 hS326))))⟩ (by simp only [B0,reduceIte,
   reduceEqDiff]) (by simp only [B0,reduceIte,reduceEqDiff]) (fun _ _ _ h=>h) rfl rfl (fun _ _ _ _ h=>h) (fun _ _ _ _ h=>h) (fun _ _ _ _ h=>h) (by decide) ?_ ?_
 ·rintro i335 s332 fr349 h350 hx354 ⟨c333,f352,f353,hv334,hS351⟩ f355 f356 oc338 hF341 hr342 Q343 hN344 hB348 hK345 hR346 hE347
  unfold qdn at hF341
  simp only [quc,qh,qf,f355,qg,qa,qrk,jo,f352,z8,qt,Nat.reduceAdd,Nat.zero_add,Nat.add_zero,q9,z2,B0,
    reduceIte,reduceEqDiff]
  refine zd (v:=pv0_0) ((z5 (Sep.bk _ _ _ hS351)).trans rfl) ?_
  simp only [jl,qt,f352,z8,Nat.reduceAdd,Nat.zero_add,Nat.add_zero,q9,z2,B0,reduceIte,reduceEqDiff]
  refine zd (v:=pv0_0) ((z5 (Sep.bk _ _ _ hS351)).trans rfl) ?_
  obtain ⟨x357,hx358,hF359⟩:=qm hF341
  simp only [jl,qt,qam,B0,reduceIte,reduceEqDiff]
  obtain ⟨b360,hb361⟩:=SlF.isrow hv334 (k8 hx358)
  refine zd (SlF.ia hv334 hb361 hx358) ?_
  simp only [z8,qt,Nat.reduceAdd,Nat.zero_add,Nat.add_zero,q9,z2,B0,reduceIte,reduceEqDiff]
  refine zd (v := .int .i64 x357.Left) ((SlF.ld (o:=1) hv334 (Sep.m2 hS351) hb361 hx358 (fun _=>rfl) (nle rfl)).trans rfl) ?_
  simp only [u3,qt,z4,qam,B0,reduceIte,reduceEqDiff]
  refine zd (SlF.ia hv334 hb361 hx358) ?_
  simp only [z8,qt,Nat.reduceAdd,Nat.zero_add,Nat.add_zero,q9,qdj,B0,reduceIte,reduceEqDiff]
  refine qib (f:=qe) (x':=(Broker.mk x357.Epoch x357.Left (decide (x357.Left=0)))) (o:=2) hv334 (Sep.m2 hS351) hW hb361 hx358 (fun _=>rfl) rfl rfl
    (nle rfl) rfl (fun c364 h362 hv365 hS363=>?_)
  have hx366:=ym (x':=(Broker.mk x357.Epoch x357.Left (decide (x357.Left=0)))) hx358
  simp only [zm,qk,B0,reduceIte,reduceEqDiff]
  have e367:=qj hF359
  exact hN344 _ _ _ e367.symm ⟨c364,f352,f353,hv365,(Sep.m3 (Sep.m3 (Sep.m1 (Sep.m3 hS363))))⟩ (f355) (f356)
 rintro s369 fr372 h373 rfl ⟨c370,f375,f376,hv371,hS374⟩
 dsimp only [jnO] at hk340
 unfold qhx at hk340
 simp only [qh,qf,f375,ql,B0,reduceIte,reduceEqDiff]
 refine qi (v := .agg [pv0_0,v17,.int .i64 s15.Next]) ((z3 (Sep.bk _ _ _ hS374)).trans rfl) ?_
 simp only [f376,zl,B0,reduceIte,reduceEqDiff]
 refine zf (us:=[pv0_0,v17,.int .i64 s15.Next]) rfl (cs':=[pv0_0,v17,
   .int .i64 s15.Next]) (Sep.m1 hS374) hW rfl (qs (SlF.one hv371) (qs (SlN.one hv19) (qs rfl zt))) (nle rfl) rfl (fun h377 hS378=>?_)
 simp only [qg,qa,q8,B0,reduceIte,reduceEqDiff]
 have he:=qj hk340
 subst he
 refine kc (qn (kr (bb:=b9) (oo:=0) (v := .agg [pv0_0,v17,
   .int .i64 s15.Next]) (f376) ((z3 (Sep.bk _ _ _ hS378)).trans rfl)) (qn (ye (v := .int .i64 0) (rfl)) zg)) ?_
 exact ⟨c370,v17,c18,by first | trivial | rfl,hv371,hv19,(Sep.m1 (Sep.m1 (Sep.dc ((Sep.dc (hS378))))))⟩
theorem qfp {W:Nat→Bool}{h:Heap} (hW:∀ b,
  (geL h.length) b→W b=true) (c_0:Control) (r:Control) (hF:qbk c_0=some r) : Ret E W 56 [.agg [lst qe c_0.Brokers,lst qd c_0.Parts,
  .int .i64 c_0.Next]] h (fun v h'=>∃ rv0_0 rc0_0 rv0_1 rc0_1,v = .agg [rv0_0,rv0_1,
  .int .i64 r.Next]∧SlF qe 3 86 rv0_0 r.Brokers rc0_0∧SlN Partition.R 5 39 rv0_1 r.Parts rc0_1∧Sep h' (geL h.length) (rc0_0++(rc0_1++([])))):=by
 refine Ret.of (fn:=x56) rfl (Run.of ?_)
 unfold qbk at hF
 have zf0:zj [.agg [lst qe c_0.Brokers,lst qd c_0.Parts,.int .i64 c_0.Next]] 0 = .agg [lst qe c_0.Brokers,lst qd c_0.Parts,
   .int .i64 c_0.Next]:=rfl
 generalize zj [.agg [lst qe c_0.Brokers,lst qd c_0.Parts,.int .i64 c_0.Next]]=fr0 at zf0 ⊢
 have hS:Sep h (geL h.length) []:=Sep.nil h
 simp only [x56,qh,qf,ju,zf0,B0,reduceIte,reduceEqDiff]
 refine je (cs:=[lst qe c_0.Brokers,lst qd c_0.Parts,.int .i64 c_0.Next]) hS rfl rfl rfl (fun b1 h2 hS3=>?_)
 simp only [jg,B0,reduceIte,reduceEqDiff]
 refine z1 hS3 (fun b5 h6 hS7=>?_)
 simp only [qa,B0,reduceIte,reduceEqDiff]
 refine zw (Sep.m1 hS7) hW (by simp only [B0,reduceIte,reduceEqDiff]) (fun h9 hS10=>?_)
 simp only [zv,qzm,qh,jo,qbv,evp,B0,reduceIte,reduceEqDiff]
 refine qac (n:=3) (f:=qe) ([] : List Broker) hS10 rfl rfl (fun v12 c13 h14 hv15 hS16 hq11=>?_)
 simp only [qma,B0,reduceIte,reduceEqDiff]
 refine qhe hS16 (fun b18 h19 hS20=>?_)
 simp only [z8,qt,Nat.reduceAdd,Nat.zero_add,Nat.add_zero,qq,z2,B0,reduceIte,reduceEqDiff]
 refine zd (v:=lst qe c_0.Brokers) rfl ?_
 simp only [qdy,B0,reduceIte,reduceEqDiff]
 obtain ⟨l22,hx23,hF24⟩:=qm hF
 have hq25:=nwq (fun z hz=>Sep.dj (Sep.m2 (Sep.m2 hS20)) qbn (SlF.rowfp hv15 z hz))
 refine qgt qfi ?_
 refine qaw (f:=qe) hv15 (Sep.m1 hS20) hW (fun _=>rfl) (fun _=>rfl) (yv (fun _=>rfl)) hx23 (fun v26 c27 h28 hv29 hS30=>?_)
 simp only [qdo,qt,Nat.reduceAdd,Nat.zero_add,Nat.add_zero,qq,qcc,qbq,B0,reduceIte,reduceEqDiff]
 refine zd (v := .int .i64 c_0.Next) rfl ?_
 simp only [qhd,evp,B0,reduceIte,reduceEqDiff]
 refine zd (v := .agg [v26,.nil,.int .i64 c_0.Next]) (qdf (u7 (us:=[v26]) (vs:=[v26,.nil,
   .int .i64 0]) (kd (SlF.one hv29)) rfl (nle rfl) (qs (SlF.one hv29) zt) rfl (u7 (us:=[.int .i64 c_0.Next]) (vs:=[v26,.nil,
   .int .i64 c_0.Next]) rfl rfl (nle rfl) rfl rfl qe3))) ?_
 simp only [qdj,B0,reduceIte,reduceEqDiff]
 refine qc1 (us:=[v26,.nil,.int .i64 c_0.Next]) rfl (cs':=[v26,.nil,
   .int .i64 c_0.Next]) (Sep.m1 hS30) hW rfl (qs (SlF.one hv29) (qs rfl (qs rfl zt))) (nle rfl) rfl (fun h32 hS33=>?_)
 simp only [zm,q1t,qh,qf,qo,qb,Nat.reduceAdd,Nat.zero_add,Nat.add_zero,qq,ql,B0,reduceIte,reduceEqDiff]
 refine qi (v:=lst qd c_0.Parts) rfl ?_
 simp only [zr,qb,zx,qg,qa,B0,reduceIte,reduceEqDiff]
 obtain ⟨oc46,hX48,hk49⟩:=jd hF24
 simp only [q3d]
 refine kn (σ:=Control) c_0.Parts (fun i44 x45 s125=>qaf l22 i44 x45 s125) (fun s fr' h'=>∃ v41 c42,
   fr' 2 = .ptr b5 0∧fr' 3 = .ptr b18 0∧fr' 14=lst qd c_0.Parts∧SlN Partition.R 5 39 v41 s.Parts c42∧Sep h' (geL h.length) ([Blk1 b5 [.nil,.nil,
   .int .i64 0] 29]++([Blk1 b18 [v26,v41,.int .i64 s.Next] 29]++(c27++(c42++([])))))) hX48 ⟨.nil,[],rfl,rfl,rfl,SlN.nil,
   ((Sep.m2 (Sep.m1 (Sep.m1 hS33))) : Sep _ (geL h.length) ([Blk1 b5 [.nil,.nil,.int .i64 0] 29]++([Blk1 b18 [v26,.nil,
   .int .i64 c_0.Next] 29]++(c27++([])))))⟩ (by simp only [B0,reduceIte,reduceEqDiff]) (by simp only [B0,reduceIte,
   reduceEqDiff]) (fun _ _ _ h=>h) rfl rfl (fun _ _ _ _ h=>h) (fun _ _ _ _ h=>h) (fun _ _ _ _ h=>h) (by decide) ?_ ?_
 ·rintro i44 x45 s39 fr58 h59 hx64 ⟨v41,c42,f61,f62,f63,hv43,hS60⟩ f65 f66 oc47 hF50 hr51 Q52 hN53 hB57 hK54 hR55 hE56
  unfold qaf at hF50
  simp only [q2b,qh,qf,f63,f65,jb,B0,reduceIte,reduceEqDiff]
  refine qi (v := .ref (qd x45) 0) (ko hx64 rfl) ?_
  simp only [ql,B0,reduceIte,reduceEqDiff]
  refine qi (v := .agg [lst cI x45.Homes,lst cI x45.InStep,.int .i64 x45.Leader,.int .i64 x45.Epoch,.int .i64 x45.Stamp]) rfl ?_
  simp only [jg,B0,reduceIte,reduceEqDiff]
  refine z1 hS60 (fun b67 h68 hS69=>?_)
  simp only [zl,B0,reduceIte,reduceEqDiff]
  refine zf (us:=[lst cI x45.Homes,lst cI x45.InStep,.int .i64 x45.Leader,.int .i64 x45.Epoch,.int .i64 x45.Stamp]) rfl (cs':=[lst cI x45.Homes,
    lst cI x45.InStep,.int .i64 x45.Leader,.int .i64 x45.Epoch,.int .i64 x45.Stamp]) hS69 hW rfl rfl (nle rfl) rfl (fun h71 hS72=>?_)
  simp only [qa,qz5,qh,qf,j6,evp,B0,reduceIte,reduceEqDiff]
  refine jv (n:=1) (f:=cI) ([] : List Int) hS72 rfl rfl (fun v73 c74 h75 hv76 hS77=>?_)
  simp only [qo,qb,Nat.reduceAdd,Nat.zero_add,Nat.add_zero,q9,ql,B0,reduceIte,reduceEqDiff]
  refine qi (v:=lst cI x45.Homes) ((z5 (Sep.bk _ _ _ (Sep.m1 hS77))).trans rfl) ?_
  simp only [xj,B0,reduceIte,reduceEqDiff]
  obtain ⟨l79,hx80,hF81⟩:=qm hF50
  refine y8 (f:=cI) hv76 hS77 hW (fun _=>rfl) (fun _=>rfl) (yv (fun _=>rfl)) hx80 (fun v82 c83 h84 hv85 hS86=>?_)
  simp only [qo,qb,Nat.reduceAdd,Nat.zero_add,Nat.add_zero,q9,zl,B0,reduceIte,reduceEqDiff]
  refine zf (us:=[v82]) (kd (SlF.one hv85)) (cs':=[v82,lst cI x45.InStep,.int .i64 x45.Leader,.int .i64 x45.Epoch,
    .int .i64 x45.Stamp]) (Sep.m1 hS86) hW rfl (qs (SlF.one hv85) zt) (nle rfl) rfl (fun h88 hS89=>?_)
  simp only [qa,q1e,qh,qf,j6,evp,B0,reduceIte,reduceEqDiff]
  refine jv (n:=1) (f:=cI) ([] : List Int) hS89 rfl rfl (fun v90 c91 h92 hv93 hS94=>?_)
  simp only [qo,qb,Nat.reduceAdd,Nat.zero_add,Nat.add_zero,q9,ql,B0,reduceIte,reduceEqDiff]
  refine qi (v:=lst cI x45.InStep) ((z5 (Sep.bk _ _ _ (Sep.m1 hS94))).trans rfl) ?_
  simp only [xj,B0,reduceIte,reduceEqDiff]
  obtain ⟨l96,hx97,hF98⟩:=qm hF81
  refine y8 (f:=cI) hv93 hS94 hW (fun _=>rfl) (fun _=>rfl) (yv (fun _=>rfl)) hx97 (fun v99 c100 h101 hv102 hS103=>?_)
  simp only [qo,qb,Nat.reduceAdd,Nat.zero_add,Nat.add_zero,q9,zl,B0,reduceIte,reduceEqDiff]
  refine zf (us:=[v99]) (kd (SlF.one hv102)) (cs':=[v82,v99,.int .i64 x45.Leader,.int .i64 x45.Epoch,
    .int .i64 x45.Stamp]) (Sep.m1 hS103) hW rfl (qs (SlF.one hv102) zt) (nle rfl) rfl (fun h105 hS106=>?_)
  simp only [qa,qz0,qf,f62,qo,qb,Nat.reduceAdd,Nat.zero_add,Nat.add_zero,q9,ql,B0,reduceIte,reduceEqDiff]
  refine qi (v:=v41) ((z5 (Sep.bk _ _ _ (Sep.m4 hS106))).trans rfl) ?_
  simp only [ql,B0,reduceIte,reduceEqDiff]
  refine qi (v := .agg [v82,v99,.int .i64 x45.Leader,.int .i64 x45.Epoch,.int .i64 x45.Stamp]) ((z3 (Sep.bk _ _ _ hS106)).trans rfl) ?_
  simp only [j6,evp,B0,reduceIte,reduceEqDiff]
  refine qd5 (R:=Partition.R) (n:=5) (cs:=[v82,v99,.int .i64 x45.Leader,.int .i64 x45.Epoch,
    .int .i64 x45.Stamp]) (os:=c83++(c100)) (Sep.bi2 (c1:=c83) (c2:=c100) (Sep.m2 (Sep.m1 hS106))) (u7 (us:=[v82,v99,.int .i64 x45.Leader,.int .i64 x45.Epoch,
    .int .i64 x45.Stamp]) (vs:=[v82,v99,.int .i64 x45.Leader,.int .i64 x45.Epoch,
    .int .i64 x45.Stamp]) rfl rfl (nle rfl) (qs (SlF.one hv85) (qs (SlF.one hv102) (qs rfl (qs rfl (qs rfl zt))))) rfl qe3) (Partition.RI (x :=
    (Partition.mk l79 l96 x45.Leader x45.Epoch x45.Stamp)) hv85 hv102) rfl (fun v107 c108 h109 hv110 hS111=>?_)
  simp only [xj,B0,reduceIte,reduceEqDiff]
  obtain ⟨l113,hx114,hF115⟩:=qm hF98
  refine qgu (R:=Partition.R) (c:=c42) hv43 hv110 (Sep.m5 hS111) hW Partition.RO.len Partition.RO.one hx114 (fun v116 c117 h118 hv119 hS120=>?_)
  simp only [f62,qo,qb,Nat.reduceAdd,Nat.zero_add,Nat.add_zero,q9,zl,B0,reduceIte,reduceEqDiff]
  refine zf (us:=[v116]) (kd (SlN.one hv119)) (cs':=[v26,v116,
    .int .i64 s39.Next]) (Sep.m3 hS120) hW rfl (qs (SlN.one hv119) zt) (nle rfl) rfl (fun h122 hS123=>?_)
  simp only [qa,qk,B0,reduceIte,reduceEqDiff]
  have e124:=qj hF115
  exact hN53 _ _ _ e124.symm ⟨v116,c117,f61,f62,f63,hv119,(Sep.m3 (Sep.m2 (Sep.m3 (Sep.m1 (Sep.dc (Sep.m2 hS123))))))⟩ (f65) (f66)
 rintro s126 fr131 h132 rfl ⟨v128,c129,f134,f135,f136,hv130,hS133⟩
 dsimp only [jnO] at hk49
 unfold qg7 at hk49
 simp only [qh,qf,f135,ql,B0,reduceIte,reduceEqDiff]
 refine qi (v := .agg [v26,v128,.int .i64 s126.Next]) ((z3 (Sep.bk _ _ _ (Sep.m1 hS133))).trans rfl) ?_
 simp only [f134,zl,B0,reduceIte,reduceEqDiff]
 refine zf (us:=[v26,v128,.int .i64 s126.Next]) rfl (cs':=[v26,v128,
   .int .i64 s126.Next]) hS133 hW rfl (qs (SlF.one hv29) (qs (SlN.one hv130) (qs rfl zt))) (nle rfl) rfl (fun h137 hS138=>?_)
 simp only [qa,q8,B0,reduceIte,reduceEqDiff]
 have he:=qj hk49
 subst he
 refine wz (bb:=b5) (oo:=0) (v := .agg [v26,v128,.int .i64 s126.Next]) (by simp only [f134,B0,reduceIte,
   reduceEqDiff]) ((z3 (Sep.bk _ _ _ hS138)).trans rfl) ?_
 exact ⟨v26,c27,v128,c129,by first | trivial | rfl,hv29,hv130,(Sep.m1 (Sep.m1 (Sep.dc ((Sep.dc (hS138))))))⟩
end Go.Proofs.Ytjloihcijdcpeaa.X
