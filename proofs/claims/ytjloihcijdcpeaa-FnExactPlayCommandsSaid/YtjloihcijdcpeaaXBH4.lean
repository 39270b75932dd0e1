/- The functions' code comes to what the plain functions say (4). -/
import Derived.Test.YtjloihcijdcpeaaXBH3
set_option linter.unusedVariables false
set_option linter.unusedSimpArgs false
set_option maxRecDepth 100000
namespace Go.Proofs.Ytjloihcijdcpeaa.X
open Go
open Nat (reduceEqDiff)
theorem qj7 {W:Nat→Bool}{h:Heap} (hW:∀ b,
  (geL h.length) b→W b=true) (v_0:Control) (v_1:Command) (r:Int) (hF:wu v_0 v_1=some r) : Ret E W 83 [.agg [lst qi v_0.Brokers,
  lst qj v_0.Parts,.int .i64 v_0.Next],.agg [.int .i64 v_1.Kind,.int .i64 v_1.Broker,.int .i64 v_1.Epoch,.int .i64 v_1.Part,.int .i64 v_1.Stamp,
  lst cI v_1.InStep]] h (fun v h'=>cut h.length h' E.sz false 9 v=some (.int .i64 r)):=by
 refine Ret.of (fn:=x83) rfl (Run.of ?_)
 unfold wu at hF
 have zf0:zc [.agg [lst qi v_0.Brokers,lst qj v_0.Parts,.int .i64 v_0.Next],.agg [.int .i64 v_1.Kind,.int .i64 v_1.Broker,.int .i64 v_1.Epoch,
   .int .i64 v_1.Part,.int .i64 v_1.Stamp,lst cI v_1.InStep]] 0 = .agg [lst qi v_0.Brokers,lst qj v_0.Parts,.int .i64 v_0.Next]:=rfl
 have zf1:zc [.agg [lst qi v_0.Brokers,lst qj v_0.Parts,.int .i64 v_0.Next],.agg [.int .i64 v_1.Kind,.int .i64 v_1.Broker,.int .i64 v_1.Epoch,
   .int .i64 v_1.Part,.int .i64 v_1.Stamp,lst cI v_1.InStep]] 1 = .agg [.int .i64 v_1.Kind,.int .i64 v_1.Broker,.int .i64 v_1.Epoch,.int .i64 v_1.Part,
   .int .i64 v_1.Stamp,lst cI v_1.InStep]:=rfl
 generalize zc [.agg [lst qi v_0.Brokers,lst qj v_0.Parts,.int .i64 v_0.Next],.agg [.int .i64 v_1.Kind,.int .i64 v_1.Broker,.int .i64 v_1.Epoch,
   .int .i64 v_1.Part,.int .i64 v_1.Stamp,lst cI v_1.InStep]]=fr0 at zf0 zf1 ⊢
 have hS:Sep h (geL h.length) []:=Sep.nil h
 simp only [x83,qd,qc,jm,zf0,B0,reduceIte,reduceEqDiff]
 refine z8 (cs:=[lst qi v_0.Brokers,lst qj v_0.Parts,.int .i64 v_0.Next]) hS rfl rfl rfl (fun b1 h2 hS3=>?_)
 simp only [jm,zf1,B0,reduceIte,reduceEqDiff]
 refine z8 (cs:=[.int .i64 v_1.Kind,.int .i64 v_1.Broker,.int .i64 v_1.Epoch,.int .i64 v_1.Part,.int .i64 v_1.Stamp,
   lst cI v_1.InStep]) hS3 rfl rfl rfl (fun b5 h6 hS7=>?_)
 simp only [qe,qa,B0,reduceIte,reduceEqDiff]
 refine zu (Sep.m1 hS7) hW (by simp only [B0,reduceIte,reduceEqDiff]) (fun h9 hS10=>?_)
 refine zu hS10 hW (by simp only [B0,reduceIte,reduceEqDiff]) (fun h11 hS12=>?_)
 simp only [zx,qth,qd,qc,qo,qb,Nat.reduceAdd,Nat.zero_add,Nat.add_zero,qq,qm,B0,reduceIte,reduceEqDiff]
 refine qg (v := .int .i64 v_1.Part) rfl ?_
 simp only [qo,qb,Nat.reduceAdd,Nat.zero_add,Nat.add_zero,qq,qm,B0,reduceIte,reduceEqDiff]
 refine qg (v:=lst qj v_0.Parts) rfl ?_
 simp only [zo,qb,zt,qp,qcp,qa,qx,B0,reduceIte,reduceEqDiff]
 refine qr (t:=(decide ((List.length v_0.Parts:Int)≤v_1.Part))) (fun hc13=>?_) (fun hc13=>?_)
 ·rw [iteT hc13] at hF
  simp only [qd,qc,qe,qa,qv,B0,reduceIte,reduceEqDiff]
  have he:=qh hF
  subst he
  simp only [qw,B0,reduceIte,reduceEqDiff]
  exact rfl
 rw [iteF hc13] at hF
 simp only [q8,qpn,qd,qc,qo,qb,Nat.reduceAdd,Nat.zero_add,Nat.add_zero,qq,qm,B0,reduceIte,reduceEqDiff]
 refine qg (v:=lst qj v_0.Parts) rfl ?_
 simp only [qo,qb,Nat.reduceAdd,Nat.zero_add,Nat.add_zero,qq,qm,B0,reduceIte,reduceEqDiff]
 refine qg (v := .int .i64 v_1.Part) rfl ?_
 obtain ⟨x14,hx15,hF16⟩:=ql hF
 simp only [zw,B0,reduceIte,reduceEqDiff]
 refine qg (v := .ref (qj x14) 0) (kf hx15 rfl) ?_
 simp only [qm,B0,reduceIte,reduceEqDiff]
 refine qg (v := .agg [lst cI x14.Homes,lst cI x14.InStep,.int .i64 x14.Leader,.int .i64 x14.Epoch,.int .i64 x14.Stamp]) rfl ?_
 simp only [jv,B0,reduceIte,reduceEqDiff]
 refine jc hS12 (fun b17 h18 hS19=>?_)
 simp only [zn,B0,reduceIte,reduceEqDiff]
 refine zi (us:=[lst cI x14.Homes,lst cI x14.InStep,.int .i64 x14.Leader,.int .i64 x14.Epoch,.int .i64 x14.Stamp]) rfl (cs':=[lst cI x14.Homes,lst cI x14.InStep,
   .int .i64 x14.Leader,.int .i64 x14.Epoch,.int .i64 x14.Stamp]) hS19 hW rfl rfl (nle rfl) rfl (fun h21 hS22=>?_)
 simp only [qa,B0,reduceIte,reduceEqDiff]
 refine zu hS22 hW (by simp only [B0,reduceIte,reduceEqDiff]) (fun h23 hS24=>?_)
 simp only [zx,qsp,qd,jy,q1j,qc,qo,qb,Nat.reduceAdd,Nat.zero_add,Nat.add_zero,qq,qm,B0,reduceIte,reduceEqDiff]
 refine qg (v := .int .i64 v_1.Epoch) rfl ?_
 simp only [qo,qb,Nat.reduceAdd,Nat.zero_add,Nat.add_zero,qq,qm,B0,reduceIte,reduceEqDiff]
 refine qg (v := .int .i64 x14.Epoch) rfl ?_
 simp only [qp,qb,kx,qe,qa,qyr,qx,B0,reduceIte,reduceEqDiff]
 refine qr (t:=(decide (v_1.Epoch≠x14.Epoch))) (fun hc25=>?_) (fun hc25=>?_)
 ·rw [iteT hc25] at hF16
  simp only [qd,qc,qe,qa,qv,B0,reduceIte,reduceEqDiff]
  have he:=qh hF16
  subst he
  simp only [qw,B0,reduceIte,reduceEqDiff]
  exact rfl
 rw [iteF hc25] at hF16
 simp only [qzg,qd,qc,qo,qb,Nat.reduceAdd,Nat.zero_add,Nat.add_zero,qq,qm,B0,reduceIte,reduceEqDiff]
 refine qg (v := .int .i64 v_1.Broker) rfl ?_
 simp only [qo,qb,Nat.reduceAdd,Nat.zero_add,Nat.add_zero,qq,qm,B0,reduceIte,reduceEqDiff]
 refine qg (v := .int .i64 x14.Leader) rfl ?_
 simp only [qp,qb,kx,qe,qa,q07,qx,B0,reduceIte,reduceEqDiff]
 refine qr (t:=(decide (v_1.Broker≠x14.Leader))) (fun hc26=>?_) (fun hc26=>?_)
 ·rw [iteT hc26] at hF16
  simp only [qd,qc,qe,qa,qv,B0,reduceIte,reduceEqDiff]
  have he:=qh hF16
  subst he
  simp only [qw,B0,reduceIte,reduceEqDiff]
  exact rfl
 rw [iteF hc26] at hF16
 simp only [q03,qd,qc,qo,qb,Nat.reduceAdd,Nat.zero_add,Nat.add_zero,qq,qm,B0,reduceIte,reduceEqDiff]
 refine qg (v := .int .i64 v_1.Stamp) rfl ?_
 simp only [qo,qb,Nat.reduceAdd,Nat.zero_add,Nat.add_zero,qq,qm,B0,reduceIte,reduceEqDiff]
 refine qg (v := .int .i64 x14.Stamp) rfl ?_
 simp only [qp,qb,kx,qe,qa,qyc,qx,B0,reduceIte,reduceEqDiff]
 refine qr (t:=(decide (v_1.Stamp≠x14.Stamp))) (fun hc27=>?_) (fun hc27=>?_)
 ·rw [iteT hc27] at hF16
  simp only [qd,qc,qe,qa,qv,B0,reduceIte,reduceEqDiff]
  have he:=qh hF16
  subst he
  simp only [qw,B0,reduceIte,reduceEqDiff]
  exact rfl
 rw [iteF hc27] at hF16
 simp only [qvj,qd,qc,qo,qb,Nat.reduceAdd,Nat.zero_add,Nat.add_zero,qq,qm,B0,reduceIte,reduceEqDiff]
 refine qg (v:=lst cI x14.Homes) rfl ?_
 simp only [qo,qb,Nat.reduceAdd,Nat.zero_add,Nat.add_zero,qq,qm,B0,reduceIte,reduceEqDiff]
 refine qg (v:=lst cI v_1.InStep) rfl ?_
 obtain ⟨v28,hx29,hF30⟩:=ql hF16
 simp only [zf,B0,reduceIte,reduceEqDiff]
 refine ja rfl (qk zm (qk zm zg)) (qhv (fun b hb=>decide_eq_true hb) x14.Homes v_1.InStep v28 hx29) ?_
 simp only [jl,qb,kd,qe,B0,reduceIte,reduceEqDiff]
 obtain ⟨v34,hx35,hF36⟩:=ql hF30
 refine zy 7 (fun fr' h'=>Sep h' (geL h.length) ([])∧fr' 52 = .bool v34∧fr' 2 = .ref [lst qi v_0.Brokers,lst qj v_0.Parts,
   .int .i64 v_0.Next] 0∧fr' 3 = .ref [.int .i64 v_1.Kind,.int .i64 v_1.Broker,.int .i64 v_1.Epoch,.int .i64 v_1.Part,.int .i64 v_1.Stamp,
   lst cI v_1.InStep] 0∧fr' 5 = .ref [lst cI x14.Homes,lst cI x14.InStep,.int .i64 x14.Leader,.int .i64 x14.Epoch,.int .i64 x14.Stamp] 0) (fun Q31 hN32=>?_) ?_
 ·simp only [List.take_succ_cons,List.take_zero]
  simp only [qf (g:=45),B0,reduceIte,reduceEqDiff]
  refine zd (t:=(!v28)) (fun hg33=>?_) (fun hg33=>?_)
  ·rw [iteT hg33] at hx35
   simp only [hg33,qf (g:=45),z4,qu,qb,zk,qa,qn,B0,reduceIte,reduceEqDiff]
   have e37:=qh hx35
   exact hN32 _ _ ⟨hS24,by rw [←e37]; simp only [B0,reduceIte,reduceEqDiff],rfl,rfl,rfl⟩
  ·rw [iteF hg33] at hx35
   simp only [hg33,qf (g:=45),qz,qo,qb,Nat.reduceAdd,Nat.zero_add,Nat.add_zero,qq,qm,B0,reduceIte,reduceEqDiff]
   refine qg (v:=lst cI v_1.InStep) rfl ?_
   simp only [hg33,qf (g:=45),qz,qo,qb,Nat.reduceAdd,Nat.zero_add,Nat.add_zero,qq,qm,B0,reduceIte,reduceEqDiff]
   refine qg (v := .int .i64 x14.Leader) rfl ?_
   obtain ⟨v38,hx39,hF40⟩:=ql hx35
   simp only [hg33,qf (g:=45),qz,zf,B0,reduceIte,reduceEqDiff]
   refine ja rfl (qk zm (qk qs zg)) (qce (fun b hb=>decide_eq_true hb) v_1.InStep x14.Leader v38 hx39) ?_
   simp only [hg33,qf (g:=45),qz,jl,qb,kd,qu,zj,qa,qn,B0,reduceIte,reduceEqDiff]
   have e41:=qh hF40
   exact hN32 _ _ ⟨hS24,by rw [←e41]; simp only [B0,reduceIte,reduceEqDiff],rfl,rfl,rfl⟩
 rintro fr42 h47 ⟨hS48,f43,f44,f45,f46⟩
 simp only [List.drop_succ_cons,List.drop_zero]
 simp only [f43,qe,qa,qx,B0,reduceIte,reduceEqDiff]
 refine qr (t:=v34) (fun hc49=>?_) (fun hc49=>?_)
 ·rw [iteT hc49] at hF36
  simp only [qd,qc,qe,qa,qv,B0,reduceIte,reduceEqDiff]
  have he:=qh hF36
  subst he
  simp only [qw,B0,reduceIte,reduceEqDiff]
  exact rfl
 rw [iteF hc49] at hF36
 simp only [q8,kh,qsb,qd,qc,f45,qo,qb,Nat.reduceAdd,Nat.zero_add,Nat.add_zero,qq,qm,B0,reduceIte,reduceEqDiff]
 refine qg (v:=lst cI v_1.InStep) rfl ?_
 simp only [zo,qb,zt,qe,qa,B0,reduceIte,reduceEqDiff]
 obtain ⟨oc52,hX54,hk55⟩:=jh hF36
 simp only [qts]
 refine ye (σ:=Unit) v_1.InStep (fun i50 x51 _=>uv v_0 x14 i50 x51 ) (fun s fr' h'=>fr' 2 = .ref [lst qi v_0.Brokers,
   lst qj v_0.Parts,.int .i64 v_0.Next] 0∧fr' 5 = .ref [lst cI x14.Homes,lst cI x14.InStep,.int .i64 x14.Leader,.int .i64 x14.Epoch,
   .int .i64 x14.Stamp] 0∧fr' 54=lst cI v_1.InStep∧Sep h' (geL h.length) ([])) hX54 ⟨f44,f46,rfl,hS48⟩ (by simp only [B0,reduceIte,reduceEqDiff]) (by simp only [B0,
   reduceIte,reduceEqDiff]) (fun _ _ _ h=>h) rfl rfl (fun _ _ _ _ h=>h) (fun _ _ _ _ h=>h) (fun _ _ _ _ h=>h) (by decide) ?_ ?_
 ·rintro i50 x51 _ fr64 h65 hx70 ⟨f67,f68,f69,hS66⟩ f71 f72 oc53 hF56 hr57 Q58 hN59 hB63 hK60 hR61 hE62
  unfold uv at hF56
  simp only [qwo,qd,qc,f69,f71,zw,B0,reduceIte,reduceEqDiff]
  refine qg (v := .ref (cI x51) 0) (yg hx70 rfl) ?_
  simp only [qm,B0,reduceIte,reduceEqDiff]
  refine qg (v := .int .i64 x51) rfl ?_
  simp only [qe,qa,qy5,qd,qc,f67,qo,qb,Nat.reduceAdd,Nat.zero_add,Nat.add_zero,qq,qm,B0,reduceIte,reduceEqDiff]
  refine qg (v:=lst qi v_0.Brokers) rfl ?_
  obtain ⟨x73,hx74,hF75⟩:=ql hF56
  simp only [qe,zw,B0,reduceIte,reduceEqDiff]
  refine qg (v := .ref (qi x73) 0) (kf hx74 rfl) ?_
  simp only [qo,qb,Nat.reduceAdd,Nat.zero_add,Nat.add_zero,qq,qm,B0,reduceIte,reduceEqDiff]
  refine qg (v := .bool x73.Fenced) rfl ?_
  simp only [qe,B0,reduceIte,reduceEqDiff]
  obtain ⟨v79,hx80,hF81⟩:=ql hF75
  refine zy 6 (fun fr' h'=>Sep h' (geL h.length) ([])∧fr' 72 = .bool v79∧fr' 2 = .ref [lst qi v_0.Brokers,lst qj v_0.Parts,
    .int .i64 v_0.Next] 0∧fr' 5 = .ref [lst cI x14.Homes,lst cI x14.InStep,.int .i64 x14.Leader,.int .i64 x14.Epoch,
    .int .i64 x14.Stamp] 0∧fr' 54=lst cI v_1.InStep∧fr' 55 = .int .i64 (List.length v_1.InStep:Int)∧fr' 56 = .int .i64 (i50:Int)) (fun Q76 hN77=>?_) ?_
  ·simp only [List.take_succ_cons,List.take_zero]
   simp only [qf (g:=66),B0,reduceIte,reduceEqDiff]
   refine zd (t:=x73.Fenced) (fun hg78=>?_) (fun hg78=>?_)
   ·rw [iteT hg78] at hx80
    simp only [hg78,qf (g:=66),q9,f68,qo,qb,Nat.reduceAdd,Nat.zero_add,Nat.add_zero,qq,qm,B0,reduceIte,reduceEqDiff]
    refine qg (v:=lst cI x14.InStep) rfl ?_
    obtain ⟨v82,hx83,hF84⟩:=ql hx80
    simp only [hg78,qf (g:=66),q9,qe,zf,B0,reduceIte,reduceEqDiff]
    refine ja rfl (qk zm (qk qs zg)) (qce (fun b hb=>decide_eq_true hb) x14.InStep x51 v82 hx83) ?_
    simp only [hg78,qf (g:=66),q9,jl,qb,kd,qu,zk,qa,qn,B0,reduceIte,reduceEqDiff]
    have e85:=qh hF84
    exact hN77 _ _ ⟨hS66,by rw [←e85]; simp only [B0,reduceIte,reduceEqDiff],f67,f68,f69,f72,f71⟩
   ·rw [iteF hg78] at hx80
    simp only [hg78,qf (g:=66),zv,qu,qb,zj,qa,qn,B0,reduceIte,reduceEqDiff]
    have e86:=qh hx80
    exact hN77 _ _ ⟨hS66,by rw [←e86]; simp only [B0,reduceIte,reduceEqDiff],f67,f68,f69,f72,f71⟩
  rintro fr87 h94 ⟨hS95,f88,f89,f90,f91,f92,f93⟩
  simp only [List.drop_succ_cons,List.drop_zero]
  simp only [qa,f88,qx,B0,reduceIte,reduceEqDiff]
  refine qr (t:=v79) (fun hc96=>?_) (fun hc96=>?_)
  ·rw [iteT hc96] at hF81
   simp only [qd,qc,qe,qa,qv,B0,reduceIte,reduceEqDiff]
   have e97:=qh hF81
   subst e97
   have ho98:=hr57 _ rfl
   have hk99:=hk55
   rw [ho98] at hk99
   dsimp only [jnO] at hk99
   apply hR61
   have he:=qh hk99
   subst he
   simp only [qw,B0,reduceIte,reduceEqDiff]
   exact rfl
  rw [iteF hc96] at hF81
  simp only [q8,qn,B0,reduceIte,reduceEqDiff]
  have e100:=qh hF81
  exact hN59 _ _ _ e100.symm ⟨f89,f90,f91,hS95⟩ (f93) (f92)
 rintro _ fr102 h103 rfl ⟨f105,f106,f107,hS104⟩
 dsimp only [jnO] at hk55
 unfold qfm at hk55
 simp only [qd,qc,qe,qa,qv,B0,reduceIte,reduceEqDiff]
 have he:=qh hk55
 subst he
 simp only [qw,B0,reduceIte,reduceEqDiff]
 exact rfl
end Go.Proofs.Ytjloihcijdcpeaa.X
namespace Go.Proofs.Ytjloihcijdcpeaa.X
open Go
open Nat (reduceEqDiff)
theorem qlx {W:Nat→Bool}{h:Heap}{lo:Nat→Prop}{S0:List Obj} (hW:∀ b,
  lo b→W b=true) (v_0:Control) (pv0_0:XV) (pc0_0:List Obj) (ph0_0:SlF qi 3 86 pv0_0 v_0.Brokers pc0_0) (pv0_1:XV) (pc0_1:List Obj)
  (ph0_1:SlN Partition.R 5 39 pv0_1 v_0.Parts pc0_1) (v_1:Command) (r:Control × Int) (hF:qdn v_0 v_1=some r) (hS:Sep h lo (pc0_0++(pc0_1 ++
  (S0)))) : Ret E W 55 [.agg [pv0_0,pv0_1,.int .i64 v_0.Next],.agg [.int .i64 v_1.Kind,.int .i64 v_1.Broker,.int .i64 v_1.Epoch,.int .i64 v_1.Part,.int .i64 v_1.Stamp,
  lst cI v_1.InStep]] h (fun v h'=>∃ rc0_0 rv0_1 rc0_1,v = .tup [.agg [pv0_0,rv0_1,.int .i64 r.1.Next],
  .int .i64 r.2]∧SlF qi 3 86 pv0_0 r.1.Brokers rc0_0∧SlN Partition.R 5 39 rv0_1 r.1.Parts rc0_1∧Sep h' lo (rc0_0++(rc0_1++(S0)))):=by
 refine Ret.of (fn:=x55) rfl (Run.of ?_)
 unfold qdn at hF
 have zf0:zc [.agg [pv0_0,pv0_1,.int .i64 v_0.Next],.agg [.int .i64 v_1.Kind,.int .i64 v_1.Broker,.int .i64 v_1.Epoch,.int .i64 v_1.Part,.int .i64 v_1.Stamp,
   lst cI v_1.InStep]] 0 = .agg [pv0_0,pv0_1,.int .i64 v_0.Next]:=rfl
 have zf1:zc [.agg [pv0_0,pv0_1,.int .i64 v_0.Next],.agg [.int .i64 v_1.Kind,.int .i64 v_1.Broker,.int .i64 v_1.Epoch,.int .i64 v_1.Part,.int .i64 v_1.Stamp,
   lst cI v_1.InStep]] 1 = .agg [.int .i64 v_1.Kind,.int .i64 v_1.Broker,.int .i64 v_1.Epoch,.int .i64 v_1.Part,.int .i64 v_1.Stamp,lst cI v_1.InStep]:=rfl
 generalize zc [.agg [pv0_0,pv0_1,.int .i64 v_0.Next],.agg [.int .i64 v_1.Kind,.int .i64 v_1.Broker,.int .i64 v_1.Epoch,.int .i64 v_1.Part,.int .i64 v_1.Stamp,
   lst cI v_1.InStep]]=fr0 at zf0 zf1 ⊢
 simp only [x55,qd,qc,jm,zf0,B0,reduceIte,reduceEqDiff]
 refine z8 (cs:=[pv0_0,pv0_1,.int .i64 v_0.Next]) hS rfl rfl (qt (SlF.one ph0_0) (qt (SlN.one ph0_1) (qt rfl zr))) (fun b1 h2 hS3=>?_)
 simp only [jm,zf1,B0,reduceIte,reduceEqDiff]
 refine z8 (cs:=[.int .i64 v_1.Kind,.int .i64 v_1.Broker,.int .i64 v_1.Epoch,.int .i64 v_1.Part,.int .i64 v_1.Stamp,
   lst cI v_1.InStep]) hS3 rfl rfl rfl (fun b5 h6 hS7=>?_)
 simp only [jv,B0,reduceIte,reduceEqDiff]
 refine jc hS7 (fun b9 h10 hS11=>?_)
 simp only [qe,qa,B0,reduceIte,reduceEqDiff]
 refine zu (Sep.m1 hS11) hW (by simp only [B0,reduceIte,reduceEqDiff]) (fun h13 hS14=>?_)
 simp only [zx,qpj,qd,qc,qo,qb,Nat.reduceAdd,Nat.zero_add,Nat.add_zero,qq,qm,B0,reduceIte,reduceEqDiff]
 refine qg (v := .int .i64 v_1.Kind) rfl ?_
 simp only [qa,qr9,jy,qqy,qd,qc,qp,qb,je,qe,qs3,qx,B0,reduceIte,reduceEqDiff]
 obtain ⟨oc23,hX24,hk25⟩:=jh hF
 refine qev (t:=(decide (v_1.Kind=1))) (fun fr' h'=>∃ s,oc23 = .nxt s∧∃ v17 c18 c21,
   fr' 2 = .ptr b1 0∧fr' 4 = .ptr b9 0∧SlN Partition.R 5 39 v17 s.1.Parts c18∧SlF qi 3 86 pv0_0 s.2 c21∧Sep h' lo ([Blk1 b1 [pv0_0,v17,
   .int .i64 s.1.Next] 29]++([Blk1 b9 [.nil,.nil,.int .i64 0] 29]++(c21++(c18++(S0)))))) (fun Q26 hN27 hR28 hE29=>⟨fun hc30=>?_,fun hc30=>?_⟩) ?_
 ·rw [iteT hc30] at hX24
  simp only [q2u,qd,qc,qo,qb,Nat.reduceAdd,Nat.zero_add,Nat.add_zero,za,qm,B0,reduceIte,reduceEqDiff]
  refine qg (v := .int .i64 v_0.Next) ((ji (Sep.bk _ _ _ (Sep.m1 hS14))).trans rfl) ?_
  simp only [qp,qb,je,qa,qxe,qx,B0,reduceIte,reduceEqDiff]
  refine qr (t:=(decide (v_0.Next=1000))) (fun hc31=>?_) (fun hc31=>?_)
  ·rw [iteT hc31] at hX24
   simp only [qd,qc,qm,B0,reduceIte,reduceEqDiff]
   refine qg (v := .agg [pv0_0,pv0_1,.int .i64 v_0.Next]) ((z7 (Sep.bk _ _ _ (Sep.m1 hS14))).trans rfl) ?_
   simp only [zn,B0,reduceIte,reduceEqDiff]
   refine zi (us:=[pv0_0,pv0_1,.int .i64 v_0.Next]) rfl (cs':=[pv0_0,pv0_1,
     .int .i64 v_0.Next]) hS14 hW rfl (qt (SlF.one ph0_0) (qt (SlN.one ph0_1) (qt rfl zr))) (nle rfl) rfl (fun h32 hS33=>?_)
   simp only [qe,qa,qv,B0,reduceIte,reduceEqDiff]
   have e34:=qh hX24
   subst e34
   have hk25':=hk25
   dsimp only [jnO] at hk25'
   apply hR28
   have he:=qh hk25'
   subst he
   refine kc (qk (kn (bb:=b9) (oo:=0) (v := .agg [pv0_0,pv0_1,
     .int .i64 v_0.Next]) (rfl) ((z7 (Sep.bk _ _ _ hS33)).trans rfl)) (qk (kz (v := .int .i64 4) (rfl)) zg)) ?_
   exact ⟨pc0_0,pv0_1,pc0_1,by first | trivial | rfl,ph0_0,ph0_1,(Sep.m1 (Sep.m1 (Sep.dc ((Sep.dc (hS33))))))⟩
  rw [iteF hc31] at hX24
  simp only [q8,qxt,qd,qc,qo,qb,Nat.reduceAdd,Nat.zero_add,Nat.add_zero,za,qm,B0,reduceIte,reduceEqDiff]
  refine qg (v:=pv0_0) ((ji (Sep.bk _ _ _ (Sep.m1 hS14))).trans rfl) ?_
  simp only [qo,qb,Nat.reduceAdd,Nat.zero_add,Nat.add_zero,qq,qm,B0,reduceIte,reduceEqDiff]
  refine qg (v := .int .i64 v_1.Broker) rfl ?_
  simp only [qo,qb,Nat.reduceAdd,Nat.zero_add,Nat.add_zero,za,qm,B0,reduceIte,reduceEqDiff]
  refine qg (v := .int .i64 v_0.Next) ((ji (Sep.bk _ _ _ (Sep.m1 hS14))).trans rfl) ?_
  simp only [run_build,evp,B0,reduceIte,reduceEqDiff]
  refine qg (v := .agg [.int .i64 v_0.Next,.int .i64 9,.bool false]) rfl ?_
  obtain ⟨x35,hx36,hF37⟩:=ql hX24
  simp only [zw,B0,reduceIte,reduceEqDiff]
  obtain ⟨b38,hb39⟩:=SlF.isrow ph0_0 (k8 hx36)
  refine qg (SlF.ia ph0_0 hb39 hx36) ?_
  simp only [zn,B0,reduceIte,reduceEqDiff]
  refine ue (f:=qi) (x':=(Broker.mk v_0.Next 9 false)) (o:=0) ph0_0 (Sep.m2 hS14) hW hb39 hx36 (fun _=>rfl) rfl rfl (nle rfl) rfl
    (fun c42 h40 hv43 hS41=>?_)
  have hx44:=ka (x':=(Broker.mk v_0.Next 9 false)) hx36
  simp only [qa,q0i,qc,qo,qb,Nat.reduceAdd,Nat.zero_add,Nat.add_zero,za,qm,B0,reduceIte,reduceEqDiff]
  refine qg (v := .int .i64 v_0.Next) ((ji (Sep.bk _ _ _ (Sep.m2 hS41))).trans rfl) ?_
  simp only [qp,qb,k7,qo,Nat.reduceAdd,Nat.zero_add,Nat.add_zero,za,zn,B0,reduceIte,reduceEqDiff]
  refine zi (us:=[.int .i64 (IntKind.wrap .i64 (v_0.Next+1))]) rfl (cs':=[pv0_0,pv0_1,
    .int .i64 (IntKind.wrap .i64 (v_0.Next+1))]) (Sep.m2 hS41) hW rfl rfl (nle rfl) rfl (fun h45 hS46=>?_)
  simp only [qa,qn,B0,reduceIte,reduceEqDiff]
  have e47:=qh hF37
  exact hN27 _ _ ⟨_,e47.symm,pv0_1,pc0_1,c42,rfl,rfl,ph0_1,hv43,(Sep.m3 (Sep.m3 (Sep.m2 (Sep.m3 hS46))))⟩
 ·rw [iteF hc30] at hX24
  simp only [qr0,qd,qc,qp,qb,je,qe,qa,qsn,qx,B0,reduceIte,reduceEqDiff]
  refine qr (t:=(decide (v_1.Kind=2))) (fun hc48=>?_) (fun hc48=>?_)
  ·rw [iteT hc48] at hX24
   simp only [qto,qd,qc,qo,qb,Nat.reduceAdd,Nat.zero_add,Nat.add_zero,za,qm,B0,reduceIte,reduceEqDiff]
   refine qg (v:=pv0_0) ((ji (Sep.bk _ _ _ (Sep.m1 hS14))).trans rfl) ?_
   simp only [qo,qb,Nat.reduceAdd,Nat.zero_add,Nat.add_zero,qq,qm,B0,reduceIte,reduceEqDiff]
   refine qg (v := .int .i64 v_1.Broker) rfl ?_
   obtain ⟨x49,hx50,hF51⟩:=ql hX24
   simp only [zw,B0,reduceIte,reduceEqDiff]
   obtain ⟨b52,hb53⟩:=SlF.isrow ph0_0 (k8 hx50)
   refine qg (SlF.ia ph0_0 hb53 hx50) ?_
   simp only [qm,B0,reduceIte,reduceEqDiff]
   refine qg (v := .agg [.int .i64 x49.Epoch,.int .i64 x49.Left,
     .bool x49.Fenced]) ((SlF.lds (o:=0) ph0_0 (Sep.m2 hS14) hb53 hx50 (fun _=>rfl) (nle rfl)).trans rfl) ?_
   simp only [jv,B0,reduceIte,reduceEqDiff]
   refine jc hS14 (fun b54 h55 hS56=>?_)
   simp only [zn,B0,reduceIte,reduceEqDiff]
   refine zi (us:=[.int .i64 x49.Epoch,.int .i64 x49.Left,.bool x49.Fenced]) rfl (cs':=[.int .i64 x49.Epoch,.int .i64 x49.Left,
     .bool x49.Fenced]) hS56 hW rfl rfl (nle rfl) rfl (fun h58 hS59=>?_)
   simp only [qa,B0,reduceIte,reduceEqDiff]
   refine zu hS59 hW (by simp only [B0,reduceIte,reduceEqDiff]) (fun h60 hS61=>?_)
   simp only [zx,qzb,qd,qc,qo,qb,Nat.reduceAdd,Nat.zero_add,Nat.add_zero,qq,qm,B0,reduceIte,reduceEqDiff]
   refine qg (v := .int .i64 x49.Epoch) rfl ?_
   simp only [qp,qb,je,qa,qzr,qx,B0,reduceIte,reduceEqDiff]
   refine qr (t:=(decide (x49.Epoch=0))) (fun hc62=>?_) (fun hc62=>?_)
   ·rw [iteT hc62] at hF51
    simp only [qd,qc,qm,B0,reduceIte,reduceEqDiff]
    refine qg (v := .agg [pv0_0,pv0_1,.int .i64 v_0.Next]) ((z7 (Sep.bk _ _ _ (Sep.m1 hS61))).trans rfl) ?_
    simp only [zn,B0,reduceIte,reduceEqDiff]
    refine zi (us:=[pv0_0,pv0_1,.int .i64 v_0.Next]) rfl (cs':=[pv0_0,pv0_1,
      .int .i64 v_0.Next]) hS61 hW rfl (qt (SlF.one ph0_0) (qt (SlN.one ph0_1) (qt rfl zr))) (nle rfl) rfl (fun h63 hS64=>?_)
    simp only [qe,qa,qv,B0,reduceIte,reduceEqDiff]
    have e65:=qh hF51
    subst e65
    have hk25':=hk25
    dsimp only [jnO] at hk25'
    apply hR28
    have he:=qh hk25'
    subst he
    refine kc (qk (kn (bb:=b9) (oo:=0) (v := .agg [pv0_0,pv0_1,
      .int .i64 v_0.Next]) (rfl) ((z7 (Sep.bk _ _ _ hS64)).trans rfl)) (qk (kz (v := .int .i64 1) (rfl)) zg)) ?_
    exact ⟨pc0_0,pv0_1,pc0_1,by first | trivial | rfl,ph0_0,ph0_1,(Sep.m1 (Sep.m1 (Sep.dc ((Sep.dc (hS64))))))⟩
   rw [iteF hc62] at hF51
   simp only [q8,q11,qd,qc,qo,qb,Nat.reduceAdd,Nat.zero_add,Nat.add_zero,qq,qm,B0,reduceIte,reduceEqDiff]
   refine qg (v := .int .i64 x49.Epoch) rfl ?_
   simp only [qo,qb,Nat.reduceAdd,Nat.zero_add,Nat.add_zero,qq,qm,B0,reduceIte,reduceEqDiff]
   refine qg (v := .int .i64 v_1.Epoch) rfl ?_
   simp only [qp,qb,kx,qa,qwe,qx,B0,reduceIte,reduceEqDiff]
   refine qr (t:=(decide (x49.Epoch≠v_1.Epoch))) (fun hc66=>?_) (fun hc66=>?_)
   ·rw [iteT hc66] at hF51
    simp only [qd,qc,qm,B0,reduceIte,reduceEqDiff]
    refine qg (v := .agg [pv0_0,pv0_1,.int .i64 v_0.Next]) ((z7 (Sep.bk _ _ _ (Sep.m1 hS61))).trans rfl) ?_
    simp only [zn,B0,reduceIte,reduceEqDiff]
    refine zi (us:=[pv0_0,pv0_1,.int .i64 v_0.Next]) rfl (cs':=[pv0_0,pv0_1,
      .int .i64 v_0.Next]) hS61 hW rfl (qt (SlF.one ph0_0) (qt (SlN.one ph0_1) (qt rfl zr))) (nle rfl) rfl (fun h67 hS68=>?_)
    simp only [qe,qa,qv,B0,reduceIte,reduceEqDiff]
    have e69:=qh hF51
    subst e69
    have hk25':=hk25
    dsimp only [jnO] at hk25'
    apply hR28
    have he:=qh hk25'
    subst he
    refine kc (qk (kn (bb:=b9) (oo:=0) (v := .agg [pv0_0,pv0_1,
      .int .i64 v_0.Next]) (rfl) ((z7 (Sep.bk _ _ _ hS68)).trans rfl)) (qk (kz (v := .int .i64 2) (rfl)) zg)) ?_
    exact ⟨pc0_0,pv0_1,pc0_1,by first | trivial | rfl,ph0_0,ph0_1,(Sep.m1 (Sep.m1 (Sep.dc ((Sep.dc (hS68))))))⟩
   rw [iteF hc66] at hF51
   simp only [q8,q0s,qc,qo,qb,Nat.reduceAdd,Nat.zero_add,Nat.add_zero,za,qm,B0,reduceIte,reduceEqDiff]
   refine qg (v:=pv0_0) ((ji (Sep.bk _ _ _ (Sep.m1 hS61))).trans rfl) ?_
   simp only [qo,qb,Nat.reduceAdd,Nat.zero_add,Nat.add_zero,qq,qm,B0,reduceIte,reduceEqDiff]
   refine qg (v := .int .i64 v_1.Broker) rfl ?_
   simp only [zw,B0,reduceIte,reduceEqDiff]
   refine qg (SlF.ia ph0_0 hb53 hx50) ?_
   simp only [qo,qb,Nat.reduceAdd,Nat.zero_add,Nat.add_zero,za,zn,B0,reduceIte,reduceEqDiff]
   refine ue (f:=qi) (x':=(Broker.mk x49.Epoch 9 x49.Fenced)) (o:=1) ph0_0 (Sep.m2 hS61) hW hb53 hx50 (fun _=>rfl) rfl rfl (nle rfl) rfl
     (fun c72 h70 hv73 hS71=>?_)
   have hx74:=ka (x':=(Broker.mk x49.Epoch 9 x49.Fenced)) hx50
   simp only [qa,qn,B0,reduceIte,reduceEqDiff]
   have e75:=qh hF51
   exact hN27 _ _ ⟨_,e75.symm,pv0_1,pc0_1,c72,rfl,rfl,ph0_1,hv73,(Sep.m3 (Sep.m2 (Sep.m1 (Sep.m3 hS71))))⟩
  rw [iteF hc48] at hX24
  simp only [qqf,qd,qc,qp,qb,je,qe,qa,qpc,qx,B0,reduceIte,reduceEqDiff]
  refine qr (t:=(decide (v_1.Kind=3))) (fun hc76=>?_) (fun hc76=>?_)
  ·rw [iteT hc76] at hX24
   simp only [qtx,qd,qc,qo,qb,Nat.reduceAdd,Nat.zero_add,Nat.add_zero,za,qm,B0,reduceIte,reduceEqDiff]
   refine qg (v:=pv0_0) ((ji (Sep.bk _ _ _ (Sep.m1 hS14))).trans rfl) ?_
   simp only [zo,qb,SlF.plen ph0_0,qe,qa,B0,reduceIte,reduceEqDiff]
   obtain ⟨oc85,hX87,hk88⟩:=jh hX24
   simp only [qq0]
   refine qc6 (σ:=(List Broker)) (fun i83 s118=>qbo i83 s118) (fun s fr' h'=>∃ c81,
     fr' 2 = .ptr b1 0∧fr' 4 = .ptr b9 0∧SlF qi 3 86 pv0_0 s c81∧Sep h' lo ([Blk1 b1 [pv0_0,pv0_1,.int .i64 v_0.Next] 29]++([Blk1 b9 [.nil,.nil,
     .int .i64 0] 29]++(c81++(pc0_1++(S0)))))) hX87 ⟨pc0_0,rfl,rfl,ph0_0,(Sep.m3 (Sep.m2 (Sep.m3 (Sep.m3 hS14))))⟩ (by simp only [B0,reduceIte,
     reduceEqDiff]) (by simp only [B0,reduceIte,reduceEqDiff]) (fun _ _ _ h=>h) rfl rfl (fun _ _ _ _ h=>h) (fun _ _ _ _ h=>h) (fun _ _ _ _ h=>h) (by decide) ?_ ?_
   ·rintro i83 s80 fr97 h98 hx102 ⟨c81,f100,f101,hv82,hS99⟩ f103 f104 oc86 hF89 hr90 Q91 hN92 hB96 hK93 hR94 hE95
    unfold qbo at hF89
    simp only [qrm,qd,qc,f103,qe,qa,qor,f100,qo,qb,Nat.reduceAdd,Nat.zero_add,Nat.add_zero,za,qm,B0,reduceIte,
      reduceEqDiff]
    refine qg (v:=pv0_0) ((ji (Sep.bk _ _ _ hS99)).trans rfl) ?_
    obtain ⟨x105,hx106,hF107⟩:=ql hF89
    simp only [qe,zw,B0,reduceIte,reduceEqDiff]
    obtain ⟨b108,hb109⟩:=SlF.isrow hv82 (k8 hx106)
    refine qg (SlF.ia hv82 hb109 hx106) ?_
    simp only [qo,qb,Nat.reduceAdd,Nat.zero_add,Nat.add_zero,za,qm,B0,reduceIte,reduceEqDiff]
    refine qg (v := .int .i64 x105.Left) ((SlF.ld (o:=1) hv82 (Sep.m2 hS99) hb109 hx106 (fun _=>rfl) (nle rfl)).trans rfl) ?_
    simp only [qp,qb,qg7,qa,qru,qx,B0,reduceIte,reduceEqDiff]
    refine qr (t:=(decide ((0:Int)<x105.Left))) (fun hc110=>?_) (fun hc110=>?_)
    ·rw [iteT hc110] at hF107
     simp only [qse,qc,f100,qo,qb,Nat.reduceAdd,Nat.zero_add,Nat.add_zero,za,qm,B0,reduceIte,reduceEqDiff]
     refine qg (v:=pv0_0) ((ji (Sep.bk _ _ _ hS99)).trans rfl) ?_
     simp only [qe,zw,B0,reduceIte,reduceEqDiff]
     refine qg (SlF.ia hv82 hb109 hx106) ?_
     simp only [qo,qb,Nat.reduceAdd,Nat.zero_add,Nat.add_zero,za,qm,B0,reduceIte,reduceEqDiff]
     refine qg (v := .int .i64 x105.Left) ((SlF.ld (o:=1) hv82 (Sep.m2 hS99) hb109 hx106 (fun _=>rfl) (nle rfl)).trans rfl) ?_
     simp only [qp,qb,qh1,zw,B0,reduceIte,reduceEqDiff]
     refine qg (SlF.ia hv82 hb109 hx106) ?_
     simp only [qo,qb,Nat.reduceAdd,Nat.zero_add,Nat.add_zero,za,zn,B0,reduceIte,reduceEqDiff]
     refine ue (f:=qi) (x':=(Broker.mk x105.Epoch (IntKind.wrap .i64 (x105.Left - 1)) x105.Fenced)) (o:=1) hv82 (Sep.m2 hS99) hW hb109 hx106
       (fun _=>rfl) rfl rfl (nle rfl) rfl (fun c113 h111 hv114 hS112=>?_)
     have hx115:=ka (x':=(Broker.mk x105.Epoch (IntKind.wrap .i64 (x105.Left - 1)) x105.Fenced)) hx106
     simp only [qa,qn,B0,reduceIte,reduceEqDiff]
     have e116:=qh hF107
     exact hN92 _ _ _ e116.symm ⟨c113,f100,f101,hv114,(Sep.m3 (Sep.m3 (Sep.m1 (Sep.m3 hS112))))⟩ (f103) (f104)
    rw [iteF hc110] at hF107
    simp only [q8,qn,B0,reduceIte,reduceEqDiff]
    have e117:=qh hF107
    exact hN92 _ _ _ e117.symm ⟨c81,f100,f101,hv82,(Sep.m3 (Sep.m3 (Sep.m3 (Sep.m3 hS99))))⟩ (f103) (f104)
   rintro s119 fr122 h123 rfl ⟨c120,f125,f126,hv121,hS124⟩
   dsimp only [jnO] at hk88
   unfold qhh at hk88
   simp only [qn,B0,reduceIte,reduceEqDiff]
   have e127:=qh hk88
   exact hN27 _ _ ⟨_,e127.symm,pv0_1,pc0_1,c120,f125,f126,ph0_1,hv121,(Sep.m3 (Sep.m3 (Sep.m3 (Sep.m3 hS124))))⟩
  rw [iteF hc76] at hX24
  simp only [qrk,qd,qc,qp,qb,je,qe,qa,qtf,qx,B0,reduceIte,reduceEqDiff]
  refine qr (t:=(decide (v_1.Kind=4))) (fun hc129=>?_) (fun hc129=>?_)
  ·rw [iteT hc129] at hX24
   simp only [qrw,qd,qc,qo,qb,Nat.reduceAdd,Nat.zero_add,Nat.add_zero,qq,qm,B0,reduceIte,reduceEqDiff]
   refine qg (v:=lst cI v_1.InStep) rfl ?_
   simp only [zo,qb,zt,qp,je,qe,B0,reduceIte,reduceEqDiff]
   refine zy 5 (fun fr' h'=>Sep h' lo ([Blk1 b1 [pv0_0,pv0_1,.int .i64 v_0.Next] 29]++([Blk1 b9 [.nil,.nil,
     .int .i64 0] 29]++(pc0_0++(pc0_1++(S0)))))∧fr' 90 = .bool ((decide ((List.length v_1.InStep:Int)=0))||(decide
     ((List.length v_0.Parts:Int)=5)))∧fr' 2 = .ptr b1 0∧fr' 3 = .ref [.int .i64 v_1.Kind,.int .i64 v_1.Broker,.int .i64 v_1.Epoch,.int .i64 v_1.Part,
     .int .i64 v_1.Stamp,lst cI v_1.InStep] 0∧fr' 4 = .ptr b9 0) (fun Q130 hN131=>?_) ?_
   ·simp only [List.take_succ_cons,List.take_zero]
    simp only [qf (g:=85),B0,reduceIte,reduceEqDiff]
    refine zd (t:=(decide ((List.length v_1.InStep:Int)=0))) (fun hg132=>?_) (fun hg132=>?_)
    ·simp only [hg132,qf (g:=85),z4,qu,qb,zk,qa,qn,B0,reduceIte,reduceEqDiff]
     exact hN131 _ _ ⟨(Sep.m3 (Sep.m2 (Sep.m3 (Sep.m3 hS14)))),by rw [orT hg132]; simp only [B0,reduceIte,reduceEqDiff],rfl,rfl,rfl⟩
    ·simp only [hg132,qf (g:=85),qz,qo,qb,Nat.reduceAdd,Nat.zero_add,Nat.add_zero,za,qm,B0,reduceIte,reduceEqDiff]
     refine qg (v:=pv0_1) ((ji (Sep.bk _ _ _ (Sep.m1 hS14))).trans rfl) ?_
     simp only [hg132,qf (g:=85),qz,zo,qb,SlN.len ph0_1,qp,je,qu,zj,qa,qn,B0,reduceIte,
       reduceEqDiff]
     exact hN131 _ _ ⟨(Sep.m3 (Sep.m2 (Sep.m3 (Sep.m3 hS14)))),by rw [orF hg132]; simp only [B0,reduceIte,reduceEqDiff],rfl,rfl,rfl⟩
   rintro fr133 h138 ⟨hS139,f134,f135,f136,f137⟩
   simp only [List.drop_succ_cons,List.drop_zero]
   simp only [qa,qqe,f134,qx,B0,reduceIte,reduceEqDiff]
   refine qr (t:=((decide ((List.length v_1.InStep:Int)=0))||(decide ((List.length v_0.Parts:Int)=5)))) (fun hc140=>?_) (fun hc140=>?_)
   ·rw [iteT hc140] at hX24
    simp only [qd,qc,f135,qm,B0,reduceIte,reduceEqDiff]
    refine qg (v := .agg [pv0_0,pv0_1,.int .i64 v_0.Next]) ((z7 (Sep.bk _ _ _ hS139)).trans rfl) ?_
    simp only [f137,zn,B0,reduceIte,reduceEqDiff]
    refine zi (us:=[pv0_0,pv0_1,.int .i64 v_0.Next]) rfl (cs':=[pv0_0,pv0_1,
      .int .i64 v_0.Next]) (Sep.m1 hS139) hW rfl (qt (SlF.one ph0_0) (qt (SlN.one ph0_1) (qt rfl zr))) (nle rfl) rfl (fun h141 hS142=>?_)
    simp only [qe,qa,qv,B0,reduceIte,reduceEqDiff]
    have e143:=qh hX24
    subst e143
    have hk25':=hk25
    dsimp only [jnO] at hk25'
    apply hR28
    have he:=qh hk25'
    subst he
    refine kc (qk (kn (bb:=b9) (oo:=0) (v := .agg [pv0_0,pv0_1,
      .int .i64 v_0.Next]) (f137) ((z7 (Sep.bk _ _ _ hS142)).trans rfl)) (qk (kz (v := .int .i64 4) (rfl)) zg)) ?_
    exact ⟨pc0_0,pv0_1,pc0_1,by first | trivial | rfl,ph0_0,ph0_1,(Sep.m1 (Sep.m1 (Sep.dc ((Sep.dc (hS142))))))⟩
   rw [iteF hc140] at hX24
   simp only [q8,qs7,jz,qbk,evp,B0,reduceIte,reduceEqDiff]
   refine ut (n:=1) (f:=cI) ([] : List Int) hS139 rfl rfl (fun v145 c146 h147 hv148 hS149 hq144=>?_)
   simp only [f136,jd,qy,Nat.reduceAdd,Nat.zero_add,Nat.add_zero,qq,z6,B0,reduceIte,reduceEqDiff]
   refine ze (v:=lst cI v_1.InStep) rfl ?_
   simp only [qkv,evp,B0,reduceIte,reduceEqDiff]
   refine qhm (n:=1) (f:=cI) ([] : List Int) hS149 rfl rfl (fun v151 c152 h153 hv154 hS155=>?_)
   simp only [f136,qf5,qy,Nat.reduceAdd,Nat.zero_add,Nat.add_zero,qq,qeg,qd9,B0,reduceIte,reduceEqDiff]
   refine ze (v:=lst cI v_1.InStep) rfl ?_
   simp only [f135,qf5,qy,Nat.reduceAdd,Nat.zero_add,Nat.add_zero,za,qeg,B0,reduceIte,reduceEqDiff]
   refine qkh (Sep.ltk hS139) ?_
   refine ze (v:=pv0_1) ((ji (Sep.bk _ _ _ (Sep.m2 hS155))).trans rfl) ?_
   simp only [qdb,B0,reduceIte,reduceEqDiff]
   obtain ⟨l157,hx158,hF159⟩:=ql hX24
   have hq160:=nwq (fun z hz=>Sep.dj (Sep.m2 (Sep.m2 hS155)) qa0 (SlF.rowfp hv148 z hz))
   have hq161:=nwq (fun z hz=>Sep.dj (Sep.m2 (Sep.m3 hS155)) qa0 (SlF.rowfp hv148 z hz))
   refine qf2 (qh2 (fun z hz=>Sep.dj (Sep.m2 (Sep.m2 hS155)) qa0 (SlF.rowfp hv148 z hz)) qem) ?_
   refine qal (f:=cI) hv148 (Sep.m1 hS155) hW (fun _=>rfl) (fun _=>rfl) (yn (fun _=>rfl)) hx158 (fun v162 c163 h164 hv165 hS166=>?_)
   simp only [qdb,B0,reduceIte,reduceEqDiff]
   obtain ⟨l168,hx169,hF170⟩:=ql hF159
   have hq171:=nwq (fun z hz=>Sep.dj (Sep.m2 (Sep.m2 hS166)) qa0 (SlF.rowfp hv154 z hz))
   have hq172:=nwq (fun z hz=>Sep.dj (Sep.m2 (Sep.m3 hS166)) qa0 (SlF.rowfp hv154 z hz))
   refine qf2 (qh2 (fun z hz=>Sep.dj (Sep.m2 (Sep.m2 hS166)) qa0 (SlF.rowfp hv154 z hz)) qem) ?_
   refine qal (f:=cI) hv154 (Sep.m1 hS166) hW (fun _=>rfl) (fun _=>rfl) (yn (fun _=>rfl)) hx169 (fun v173 c174 h175 hv176 hS177=>?_)
   simp only [qgy,evp,B0,reduceIte,reduceEqDiff]
   refine ze (v := .agg [v162,v173,.int .i64 (-2),.int .i64 0,.int .i64 0]) (qej (qbw (us:=[v162]) (vs:=[v162,.nil,.int .i64 0,.int .i64 0,
     .int .i64 0]) (ko (SlF.one hv165)) rfl (nle rfl) (qt (SlF.one hv165) zr) rfl (qbw (us:=[v173]) (vs:=[v162,v173,.int .i64 0,.int .i64 0,
     .int .i64 0]) (ko (SlF.one hv176)) rfl (nle rfl) (qt (SlF.one hv176) zr) rfl (qbw (us:=[.int .i64 (-2)]) (vs:=[v162,v173,.int .i64 (-2),
     .int .i64 0,.int .i64 0]) rfl rfl (nle rfl) rfl rfl qf9)))) ?_
   simp only [qbk,evp,B0,reduceIte,reduceEqDiff]
   refine qhi (R:=Partition.R) (n:=5) (cs:=[v162,v173,.int .i64 (-2),.int .i64 0,
     .int .i64 0]) (os:=c163++(c174)) (Sep.bi2 (c1:=c163) (c2:=c174) (Sep.m1 hS177)) (qbw (us:=[v162,v173,.int .i64 (-2),.int .i64 0,
     .int .i64 0]) (vs:=[v162,v173,.int .i64 (-2),.int .i64 0,
     .int .i64 0]) rfl rfl (nle rfl) (qt (SlF.one hv165) (qt (SlF.one hv176) (qt rfl (qt rfl (qt rfl zr))))) rfl qf9) (Partition.RI (x :=
     (Partition.mk l157 l168 (-2) 0 0)) hv165 hv176) rfl (fun v179 c180 h181 hv182 hS183=>?_)
   simp only [qpy,B0,reduceIte,reduceEqDiff]
   obtain ⟨l185,hx186,hF187⟩:=ql hF170
   refine qjs (R:=Partition.R) (c:=pc0_1) ph0_1 hv182 (Sep.m4 hS183) hW Partition.RO.len Partition.RO.one hx186 (fun v188 c189 h190 hv191 hS192=>?_)
   simp only [f135,jd,qy,Nat.reduceAdd,Nat.zero_add,Nat.add_zero,za,qdi,B0,reduceIte,reduceEqDiff]
   refine qdt (us:=[v188]) (ko (SlN.one hv191)) (cs':=[pv0_0,v188,
     .int .i64 v_0.Next]) (Sep.m1 hS192) hW rfl (qt (SlN.one hv191) zr) (nle rfl) rfl (fun h194 hS195=>?_)
   simp only [zq,qn,B0,reduceIte,reduceEqDiff]
   have e196:=qh hF187
   exact hN27 _ _ ⟨_,e196.symm,v188,c189,pc0_0,f135,f137,hv191,ph0_0,(Sep.m3 (Sep.m3 (Sep.m3 (Sep.m1 hS195))))⟩
  rw [iteF hc129] at hX24
  simp only [qqd,qd,qc,qp,qb,je,qe,qa,qpd,qx,B0,reduceIte,reduceEqDiff]
  refine qr (t:=(decide (v_1.Kind=5))) (fun hc197=>?_) (fun hc197=>?_)
  ·rw [iteT hc197] at hX24
   simp only [qq3,qd,qc,qm,B0,reduceIte,reduceEqDiff]
   refine qg (v := .agg [pv0_0,pv0_1,.int .i64 v_0.Next]) ((z7 (Sep.bk _ _ _ (Sep.m1 hS14))).trans rfl) ?_
   simp only [qm,B0,reduceIte,reduceEqDiff]
   refine qg (v := .agg [.int .i64 v_1.Kind,.int .i64 v_1.Broker,.int .i64 v_1.Epoch,.int .i64 v_1.Part,.int .i64 v_1.Stamp,lst cI v_1.InStep]) rfl ?_
   obtain ⟨v198,hx199,hF200⟩:=ql hX24
   simp only [zf,B0,reduceIte,reduceEqDiff]
   refine ja rfl (qk (jb (qk (SlF.snap ph0_0 (Sep.m2 hS14) rfl (fun _=>rfl) (fun _=>rfl)) (qk (SlN.snap ph0_1 _ (Sep.m3 hS14) rfl Partition.RO)
     (qk qs zg)))) (qk (jb (qk qs (qk qs (qk qs (qk qs (qk qs (qk zm zg))))))) zg))
     (qj7 (fun b hb=>decide_eq_true hb) v_0 v_1 v198 hx199) ?_
   simp only [qe,qa,qsm,qd,qc,qp,qb,kx,qq2,qx,B0,reduceIte,reduceEqDiff]
   refine qr (t:=(decide (v198≠0))) (fun hc201=>?_) (fun hc201=>?_)
   ·rw [iteT hc201] at hF200
    simp only [qou,qd,qc,qm,B0,reduceIte,reduceEqDiff]
    refine qg (v := .agg [pv0_0,pv0_1,.int .i64 v_0.Next]) ((z7 (Sep.bk _ _ _ (Sep.m1 hS14))).trans rfl) ?_
    simp only [qe,zn,B0,reduceIte,reduceEqDiff]
    refine zi (us:=[pv0_0,pv0_1,.int .i64 v_0.Next]) rfl (cs':=[pv0_0,pv0_1,
      .int .i64 v_0.Next]) hS14 hW rfl (qt (SlF.one ph0_0) (qt (SlN.one ph0_1) (qt rfl zr))) (nle rfl) rfl (fun h202 hS203=>?_)
    simp only [qe,qa,qv,B0,reduceIte,reduceEqDiff]
    have e204:=qh hF200
    subst e204
    have hk25':=hk25
    dsimp only [jnO] at hk25'
    apply hR28
    have he:=qh hk25'
    subst he
    refine kc (qk (kn (bb:=b9) (oo:=0) (v := .agg [pv0_0,pv0_1,
      .int .i64 v_0.Next]) (rfl) ((z7 (Sep.bk _ _ _ hS203)).trans rfl)) (qk (kz (v := .int .i64 v198) (rfl)) zg)) ?_
    exact ⟨pc0_0,pv0_1,pc0_1,by first | trivial | rfl,ph0_0,ph0_1,(Sep.m1 (Sep.m1 (Sep.dc ((Sep.dc (hS203))))))⟩
   rw [iteF hc201] at hF200
   simp only [q8,qp8,qd,jz,qf5,qy,Nat.reduceAdd,Nat.zero_add,Nat.add_zero,za,qeg,B0,reduceIte,reduceEqDiff]
   refine qkh (Sep.ltk (Sep.m1 hS14)) ?_
   refine ze (v:=pv0_1) ((ji (Sep.bk _ _ _ (Sep.m1 hS14))).trans rfl) ?_
   simp only [qf5,qy,Nat.reduceAdd,Nat.zero_add,Nat.add_zero,qq,qeg,qd9,B0,reduceIte,reduceEqDiff]
   refine ze (v := .int .i64 v_1.Part) rfl ?_
   simp only [qbk,evp,B0,reduceIte,reduceEqDiff]
   refine ut (n:=1) (f:=cI) ([] : List Int) hS14 rfl rfl (fun v206 c207 h208 hv209 hS210 hq205=>?_)
   simp only [jd,qy,Nat.reduceAdd,Nat.zero_add,Nat.add_zero,qq,z6,B0,reduceIte,reduceEqDiff]
   refine ze (v:=lst cI v_1.InStep) rfl ?_
   simp only [qdb,B0,reduceIte,reduceEqDiff]
   obtain ⟨l212,hx213,hF214⟩:=ql hF200
   have hq215:=nwq (fun z hz=>Sep.dj (Sep.m1 (Sep.m1 hS210)) qa0 (SlF.rowfp hv209 z hz))
   have hq216:=nwq (fun z hz=>Sep.dj (Sep.m1 (Sep.m2 hS210)) qa0 (SlF.rowfp hv209 z hz))
   refine qf2 (qh2 (fun z hz=>Sep.dj (Sep.m1 (Sep.m2 hS210)) qa0 (SlF.rowfp hv209 z hz)) qem) ?_
   refine qal (f:=cI) hv209 hS210 hW (fun _=>rfl) (fun _=>rfl) (yn (fun _=>rfl)) hx213 (fun v217 c218 h219 hv220 hS221=>?_)
   obtain ⟨x223,hx224,hF225⟩:=ql hF214
   simp only [xm,B0,reduceIte,reduceEqDiff]
   obtain ⟨b226,hb227⟩:=SlN.isrow ph0_1 (k8 hx224)
   refine ze (SlN.ia ph0_1 hb227 hx224) ?_
   obtain ⟨c230,cs231,os232,hv233,hR234,hS235⟩:=SlG.opn (SlN.toG ph0_1 hb227 Partition.RO.len) hx224 js Partition.RO.len (Sep.m4 hS221)
   obtain ⟨v237,c238,v241,c242,hv239,hv243,rfl,rfl⟩:=hR234
   have hS236:=Sep.no2 hS235
   simp only [jd,qy,Nat.reduceAdd,Nat.zero_add,Nat.add_zero,za,qdi,B0,reduceIte,reduceEqDiff]
   refine qg1 (n:=5) (us:=[v217]) (cs:=[v237,v241,.int .i64 x223.Leader,.int .i64 x223.Epoch,.int .i64 x223.Stamp]) (o:=1) (cs':=[v237,v217,
     .int .i64 x223.Leader,.int .i64 x223.Epoch,
     .int .i64 x223.Stamp]) (ko (SlF.one hv220)) hv233 rfl hx224 hS236 hW rfl (qt (SlF.one hv220) zr) (nle rfl) rfl (fun c245 h228 hv246 hS229=>?_)
   simp only [zq,qsz,qc,qo,qb,Nat.reduceAdd,Nat.zero_add,Nat.add_zero,za,qm,B0,reduceIte,reduceEqDiff]
   refine qg (v:=pv0_1) ((ji (Sep.bk _ _ _ (Sep.m5 hS229))).trans rfl) ?_
   simp only [qo,qb,Nat.reduceAdd,Nat.zero_add,Nat.add_zero,qq,qm,B0,reduceIte,reduceEqDiff]
   refine qg (v := .int .i64 v_1.Part) rfl ?_
   simp only [zw,B0,reduceIte,reduceEqDiff]
   refine qg (SlG.ia hv246 hx224) ?_
   simp only [qo,qb,Nat.reduceAdd,Nat.zero_add,Nat.add_zero,za,qm,B0,reduceIte,reduceEqDiff]
   refine qg (v := .int .i64 x223.Stamp) ((SlG.ld (o:=4) hv246 rfl hx224 hS229 (nle rfl)).trans rfl) ?_
   simp only [qp,qb,k7,zw,B0,reduceIte,reduceEqDiff]
   refine qg (SlG.ia hv246 hx224) ?_
   simp only [qo,qb,Nat.reduceAdd,Nat.zero_add,Nat.add_zero,za,zn,B0,reduceIte,reduceEqDiff]
   refine ya (n:=5) (us:=[.int .i64 (IntKind.wrap .i64 (x223.Stamp+1))]) (cs:=[v237,v217,.int .i64 x223.Leader,.int .i64 x223.Epoch,
     .int .i64 x223.Stamp]) (o:=4) (cs':=[v237,v217,.int .i64 x223.Leader,.int .i64 x223.Epoch,
     .int .i64 (IntKind.wrap .i64 (x223.Stamp+1))]) rfl hv246 rfl hx224 hS229 hW rfl rfl (nle rfl) rfl (fun c249 h247 hv250 hS248=>?_)
   simp only [qa,qn,B0,reduceIte,reduceEqDiff]
   obtain ⟨c251,hv252,hS253⟩:=SlG.cls (e':=(Partition.mk x223.Homes l212 x223.Leader x223.Epoch (IntKind.wrap .i64 (x223.Stamp+1)))) (c:=c249) (os:=c238 ++
     (c218)) hv250 rfl hx224 js (Partition.RI (x:=(Partition.mk x223.Homes l212 x223.Leader x223.Epoch (IntKind.wrap .i64 (x223.Stamp+1)))) hv239 hv220) (Sep.ni2
     (c1:=c238) (c2:=c218) (Sep.m2 (Sep.m2 (Sep.m3 hS248))))
   have hx254:=ka (x':=(Partition.mk x223.Homes l212 x223.Leader x223.Epoch (IntKind.wrap .i64 (x223.Stamp+1)))) hx224
   have hv255:=SlG.toN hv252
   have e256:=qh hF225
   exact hN27 _ _ ⟨_,e256.symm,pv0_1,c251,pc0_0,rfl,rfl,hv255,ph0_0,(Sep.m3 (Sep.m2 (Sep.m3 (Sep.dc (Sep.m1 hS253)))))⟩
  rw [iteF hc197] at hX24
  simp only [qrl,qd,qc,qp,qb,je,qe,qa,qr8,qx,B0,reduceIte,reduceEqDiff]
  refine qr (t:=(decide (v_1.Kind=6))) (fun hc257=>?_) (fun hc257=>?_)
  ·rw [iteT hc257] at hX24
   simp only [qqt,qd,qc,qo,qb,Nat.reduceAdd,Nat.zero_add,Nat.add_zero,qq,qm,B0,reduceIte,reduceEqDiff]
   refine qg (v := .int .i64 v_1.Part) rfl ?_
   simp only [qo,qb,Nat.reduceAdd,Nat.zero_add,Nat.add_zero,za,qm,B0,reduceIte,reduceEqDiff]
   refine qg (v:=pv0_1) ((ji (Sep.bk _ _ _ (Sep.m1 hS14))).trans rfl) ?_
   simp only [zo,qb,SlN.len ph0_1,qp,qcp,qa,qqr,qx,B0,reduceIte,reduceEqDiff]
   refine qr (t:=(decide ((List.length v_0.Parts:Int)≤v_1.Part))) (fun hc258=>?_) (fun hc258=>?_)
   ·rw [iteT hc258] at hX24
    simp only [qd,qc,qm,B0,reduceIte,reduceEqDiff]
    refine qg (v := .agg [pv0_0,pv0_1,.int .i64 v_0.Next]) ((z7 (Sep.bk _ _ _ (Sep.m1 hS14))).trans rfl) ?_
    simp only [zn,B0,reduceIte,reduceEqDiff]
    refine zi (us:=[pv0_0,pv0_1,.int .i64 v_0.Next]) rfl (cs':=[pv0_0,pv0_1,
      .int .i64 v_0.Next]) hS14 hW rfl (qt (SlF.one ph0_0) (qt (SlN.one ph0_1) (qt rfl zr))) (nle rfl) rfl (fun h259 hS260=>?_)
    simp only [qe,qa,qv,B0,reduceIte,reduceEqDiff]
    have e261:=qh hX24
    subst e261
    have hk25':=hk25
    dsimp only [jnO] at hk25'
    apply hR28
    have he:=qh hk25'
    subst he
    refine kc (qk (kn (bb:=b9) (oo:=0) (v := .agg [pv0_0,pv0_1,
      .int .i64 v_0.Next]) (rfl) ((z7 (Sep.bk _ _ _ hS260)).trans rfl)) (qk (kz (v := .int .i64 1) (rfl)) zg)) ?_
    exact ⟨pc0_0,pv0_1,pc0_1,by first | trivial | rfl,ph0_0,ph0_1,(Sep.m1 (Sep.m1 (Sep.dc ((Sep.dc (hS260))))))⟩
   rw [iteF hc258] at hX24
   simp only [q8,qty,qd,jz,jd,qy,Nat.reduceAdd,Nat.zero_add,Nat.add_zero,za,z6,B0,reduceIte,reduceEqDiff]
   refine ze (v:=pv0_1) ((ji (Sep.bk _ _ _ (Sep.m1 hS14))).trans rfl) ?_
   simp only [jd,qy,Nat.reduceAdd,Nat.zero_add,Nat.add_zero,qq,z6,B0,reduceIte,reduceEqDiff]
   refine ze (v := .int .i64 v_1.Part) rfl ?_
   obtain ⟨x262,hx263,hF264⟩:=ql hX24
   simp only [xm,B0,reduceIte,reduceEqDiff]
   obtain ⟨b265,hb266⟩:=SlN.isrow ph0_1 (k8 hx263)
   refine ze (SlN.ia ph0_1 hb266 hx263) ?_
   obtain ⟨c267,cs268,os269,hv270,hR271,hS272⟩:=SlG.opn (SlN.toG ph0_1 hb266 Partition.RO.len) hx263 js Partition.RO.len (Sep.m3 hS14)
   obtain ⟨v274,c275,v278,c279,hv276,hv280,rfl,rfl⟩:=hR271
   have hS273:=Sep.no2 hS272
   simp only [jd,qy,Nat.reduceAdd,Nat.zero_add,Nat.add_zero,za,z6,B0,reduceIte,reduceEqDiff]
   refine ze (v:=v278) ((SlG.ld (o:=1) hv270 rfl hx263 hS273 (nle rfl)).trans rfl) ?_
   simp only [jd,qy,Nat.reduceAdd,Nat.zero_add,Nat.add_zero,qq,z6,B0,reduceIte,reduceEqDiff]
   refine ze (v := .int .i64 v_1.Broker) rfl ?_
   obtain ⟨v282,hx283,hF284⟩:=ql hF264
   simp only [xn,B0,reduceIte,reduceEqDiff]
   refine qez rfl (qk (SlF.snap hv280 (Sep.m2 hS273) rfl (fun _=>rfl) (fun _=>rfl)) (qk qs zg)) (qce
     (fun b hb=>decide_eq_true hb) x262.InStep v_1.Broker v282 hx283) ?_
   simp only [qg8,qy,kd,j8,B0,reduceIte,reduceEqDiff]
   obtain ⟨v288,hx289,hF290⟩:=ql hF284
   refine qhy 8 (fun fr' h'=>Sep h' lo ([Blk1 b1 [pv0_0,pv0_1,.int .i64 v_0.Next] 29]++([Blk1 b9 [.nil,.nil,
     .int .i64 0] 29]++(pc0_0++(c267++(c275++(c279++(S0)))))))∧fr' 163 = .bool v288∧fr' 2 = .ptr b1 0∧fr' 3 = .ref [.int .i64 v_1.Kind,.int .i64 v_1.Broker,
     .int .i64 v_1.Epoch,.int .i64 v_1.Part,.int .i64 v_1.Stamp,lst cI v_1.InStep] 0∧fr' 4 = .ptr b9 0) rfl (fun Q285 hN286=>?_) ?_
   ·simp only [List.take_succ_cons,List.take_zero]
    simp only [z5 (g:=155),B0,reduceIte,reduceEqDiff]
    refine qbd (t:=(!v282)) (fun hg287=>?_) (fun hg287=>?_)
    ·rw [iteT hg287] at hx289
     simp only [hg287,z5 (g:=155),qbu,u9,qy,zk,zq,qn,B0,reduceIte,reduceEqDiff]
     have e291:=qh hx289
     exact hN286 _ _ ⟨(Sep.m5 (Sep.m4 (Sep.m5 (Sep.m2 (Sep.m2 (Sep.m2 hS273)))))),by rw [←e291]; simp only [B0,reduceIte,reduceEqDiff],rfl,rfl,rfl⟩
    ·rw [iteF hg287] at hx289
     simp only [hg287,z5 (g:=155),jp,jd,qy,Nat.reduceAdd,Nat.zero_add,Nat.add_zero,za,z6,B0,reduceIte,reduceEqDiff]
     refine ze (v:=pv0_0) ((ji (Sep.bk _ _ _ (Sep.m4 hS273))).trans rfl) ?_
     simp only [hg287,z5 (g:=155),jp,jd,qy,Nat.reduceAdd,Nat.zero_add,Nat.add_zero,qq,z6,B0,reduceIte,reduceEqDiff]
     refine ze (v := .int .i64 v_1.Broker) rfl ?_
     obtain ⟨x292,hx293,hF294⟩:=ql hx289
     simp only [hg287,z5 (g:=155),jp,xm,B0,reduceIte,reduceEqDiff]
     obtain ⟨b295,hb296⟩:=SlF.isrow ph0_0 (k8 hx293)
     refine ze (SlF.ia ph0_0 hb296 hx293) ?_
     simp only [hg287,z5 (g:=155),jp,jd,qy,Nat.reduceAdd,Nat.zero_add,Nat.add_zero,za,z6,B0,reduceIte,reduceEqDiff]
     refine ze (v := .bool x292.Fenced) ((SlF.ld (o:=2) ph0_0 (Sep.m5 hS273) hb296 hx293 (fun _=>rfl) (nle rfl)).trans rfl) ?_
     simp only [hg287,u9,qy,zj,zq,qn,B0,reduceIte,reduceEqDiff]
     have e297:=qh hF294
     exact hN286 _ _ ⟨(Sep.m5 (Sep.m4 (Sep.m5 (Sep.m2 (Sep.m2 (Sep.m2 hS273)))))),by rw [←e297]; simp only [B0,reduceIte,reduceEqDiff],rfl,rfl,rfl⟩
   rintro fr298 h303 ⟨hS304,f299,f300,f301,f302⟩
   simp only [List.drop_succ_cons,List.drop_zero]
   simp only [zq,qpv,f299,qx,B0,reduceIte,reduceEqDiff]
   refine qr (t:=v288) (fun hc305=>?_) (fun hc305=>?_)
   ·rw [iteT hc305] at hF290
    simp only [qd,qc,f300,qm,B0,reduceIte,reduceEqDiff]
    refine qg (v := .agg [pv0_0,pv0_1,.int .i64 v_0.Next]) ((z7 (Sep.bk _ _ _ hS304)).trans rfl) ?_
    simp only [f302,zn,B0,reduceIte,reduceEqDiff]
    refine zi (us:=[pv0_0,pv0_1,.int .i64 v_0.Next]) rfl (cs':=[pv0_0,pv0_1,
      .int .i64 v_0.Next]) (Sep.m1 hS304) hW rfl (qt (SlF.one ph0_0) (qt (SlG.one hv270) (qt rfl zr))) (nle rfl) rfl (fun h306 hS307=>?_)
    simp only [qe,qa,qv,B0,reduceIte,reduceEqDiff]
    have e308:=qh hF290
    subst e308
    have hk25':=hk25
    dsimp only [jnO] at hk25'
    apply hR28
    obtain ⟨c309,hv310,hS311⟩:=SlG.cls0 (c:=c267) (os:=c275++(c279)) hv270 rfl hx263 js (Partition.RI (x:=x262) hv276 hv280) (Sep.ni2 (c1:=c275)
      (c2:=c279) (Sep.m5 (Sep.m5 (Sep.m5 hS307))))
    have hv312:=SlG.toN hv310
    have he:=qh hk25'
    subst he
    refine kc (qk (kn (bb:=b9) (oo:=0) (v := .agg [pv0_0,pv0_1,
      .int .i64 v_0.Next]) (f302) ((z7 (Sep.bk _ _ _ (Sep.m1 hS311))).trans rfl)) (qk (kz (v := .int .i64 4) (rfl)) zg)) ?_
    exact ⟨pc0_0,pv0_1,c309,by first | trivial | rfl,ph0_0,hv312,(Sep.m1 (Sep.dc (Sep.m1 (Sep.dc (Sep.m1 hS311)))))⟩
   rw [iteF hc305] at hF290
   simp only [q8,qtj,qc,f300,qo,qb,Nat.reduceAdd,Nat.zero_add,Nat.add_zero,za,qm,B0,reduceIte,reduceEqDiff]
   refine qg (v:=pv0_1) ((ji (Sep.bk _ _ _ hS304)).trans rfl) ?_
   simp only [f301,qo,qb,Nat.reduceAdd,Nat.zero_add,Nat.add_zero,qq,qm,B0,reduceIte,reduceEqDiff]
   refine qg (v := .int .i64 v_1.Part) rfl ?_
   simp only [f301,qo,qb,Nat.reduceAdd,Nat.zero_add,Nat.add_zero,qq,qm,B0,reduceIte,reduceEqDiff]
   refine qg (v := .int .i64 v_1.Broker) rfl ?_
   simp only [zw,B0,reduceIte,reduceEqDiff]
   refine qg (SlG.ia hv270 hx263) ?_
   simp only [qo,qb,Nat.reduceAdd,Nat.zero_add,Nat.add_zero,za,zn,B0,reduceIte,reduceEqDiff]
   refine ya (n:=5) (us:=[.int .i64 v_1.Broker]) (cs:=[v274,v278,.int .i64 x262.Leader,.int .i64 x262.Epoch,.int .i64 x262.Stamp]) (o:=2) (cs':=[v274,
     v278,.int .i64 v_1.Broker,.int .i64 x262.Epoch,.int .i64 x262.Stamp]) rfl hv270 rfl hx263 (Sep.m3 hS304) hW rfl rfl (nle rfl) rfl (fun c315 h313 hv316 hS314=>?_)
   simp only [qa,qn,B0,reduceIte,reduceEqDiff]
   obtain ⟨c317,hv318,hS319⟩:=SlG.cls (e':=(Partition.mk x262.Homes x262.InStep v_1.Broker x262.Epoch x262.Stamp)) (c:=c315) (os:=c275 ++
     (c279)) hv316 rfl hx263 js (Partition.RI (x:=(Partition.mk x262.Homes x262.InStep v_1.Broker x262.Epoch x262.Stamp)) hv276 hv280) (Sep.ni2 (c1:=c275)
     (c2:=c279) (Sep.m2 (Sep.m5 (Sep.m5 hS314))))
   have hx320:=ka (x':=(Partition.mk x262.Homes x262.InStep v_1.Broker x262.Epoch x262.Stamp)) hx263
   have hv321:=SlG.toN hv318
   have e322:=qh hF290
   exact hN27 _ _ ⟨_,e322.symm,pv0_1,c317,pc0_0,f300,f302,hv321,ph0_0,(Sep.m3 (Sep.m3 (Sep.m3 hS319)))⟩
  rw [iteF hc257] at hX24
  simp only [q8,qn,B0,reduceIte,reduceEqDiff]
  have e323:=qh hX24
  exact hN27 _ _ ⟨_,e323.symm,pv0_1,pc0_1,pc0_0,rfl,rfl,ph0_1,ph0_0,(Sep.m3 (Sep.m2 (Sep.m3 (Sep.m3 hS14))))⟩
 rintro fr324 h325 ⟨⟨s15,s20⟩,rfl,v17,c18,c21,f327,f328,hv19,hv22,hS326⟩
 dsimp only [jnO] at hk25
 dsimp only at *
 unfold qcz at hk25
 simp only [kh,qql,qd,qc,f327,qo,qb,Nat.reduceAdd,Nat.zero_add,Nat.add_zero,za,qm,B0,reduceIte,reduceEqDiff]
 refine qg (v:=pv0_0) ((ji (Sep.bk _ _ _ hS326)).trans rfl) ?_
 simp only [zo,qb,SlF.plen hv22,qe,qa,B0,reduceIte,reduceEqDiff]
 obtain ⟨oc337,hX339,hk340⟩:=jh hk25
 simp only [qrz]
 refine qc6 (σ:=(List Broker)) (fun i335 s368=>qc4 i335 s368) (fun s fr' h'=>∃ c333,
   fr' 2 = .ptr b1 0∧fr' 4 = .ptr b9 0∧SlF qi 3 86 pv0_0 s c333∧Sep h' lo ([Blk1 b1 [pv0_0,v17,.int .i64 s15.Next] 29]++([Blk1 b9 [.nil,.nil,
   .int .i64 0] 29]++(c333++(c18++(S0)))))) hX339 ⟨c21,f327,f328,hv22,(Sep.m3 (Sep.m3 (Sep.m3 (Sep.m3 hS326))))⟩ (by simp only [B0,reduceIte,
   reduceEqDiff]) (by simp only [B0,reduceIte,reduceEqDiff]) (fun _ _ _ h=>h) rfl rfl (fun _ _ _ _ h=>h) (fun _ _ _ _ h=>h) (fun _ _ _ _ h=>h) (by decide) ?_ ?_
 ·rintro i335 s332 fr349 h350 hx354 ⟨c333,f352,f353,hv334,hS351⟩ f355 f356 oc338 hF341 hr342 Q343 hN344 hB348 hK345 hR346 hE347
  unfold qc4 at hF341
  simp only [qpl,qd,qc,f355,qe,qa,qtk,jz,f352,jd,qy,Nat.reduceAdd,Nat.zero_add,Nat.add_zero,za,z6,B0,
    reduceIte,reduceEqDiff]
  refine ze (v:=pv0_0) ((ji (Sep.bk _ _ _ hS351)).trans rfl) ?_
  simp only [j8,qy,f352,jd,Nat.reduceAdd,Nat.zero_add,Nat.add_zero,za,z6,B0,reduceIte,reduceEqDiff]
  refine ze (v:=pv0_0) ((ji (Sep.bk _ _ _ hS351)).trans rfl) ?_
  obtain ⟨x357,hx358,hF359⟩:=ql hF341
  simp only [j8,qy,xm,B0,reduceIte,reduceEqDiff]
  obtain ⟨b360,hb361⟩:=SlF.isrow hv334 (k8 hx358)
  refine ze (SlF.ia hv334 hb361 hx358) ?_
  simp only [jd,qy,Nat.reduceAdd,Nat.zero_add,Nat.add_zero,za,z6,B0,reduceIte,reduceEqDiff]
  refine ze (v := .int .i64 x357.Left) ((SlF.ld (o:=1) hv334 (Sep.m2 hS351) hb361 hx358 (fun _=>rfl) (nle rfl)).trans rfl) ?_
  simp only [qbr,qy,je,xm,B0,reduceIte,reduceEqDiff]
  refine ze (SlF.ia hv334 hb361 hx358) ?_
  simp only [jd,qy,Nat.reduceAdd,Nat.zero_add,Nat.add_zero,za,qdi,B0,reduceIte,reduceEqDiff]
  refine qhu (f:=qi) (x':=(Broker.mk x357.Epoch x357.Left (decide (x357.Left=0)))) (o:=2) hv334 (Sep.m2 hS351) hW hb361 hx358 (fun _=>rfl) rfl rfl
    (nle rfl) rfl (fun c364 h362 hv365 hS363=>?_)
  have hx366:=ka (x':=(Broker.mk x357.Epoch x357.Left (decide (x357.Left=0)))) hx358
  simp only [zq,qn,B0,reduceIte,reduceEqDiff]
  have e367:=qh hF359
  exact hN344 _ _ _ e367.symm ⟨c364,f352,f353,hv365,(Sep.m3 (Sep.m3 (Sep.m1 (Sep.m3 hS363))))⟩ (f355) (f356)
 rintro s369 fr372 h373 rfl ⟨c370,f375,f376,hv371,hS374⟩
 dsimp only [jnO] at hk340
 unfold qhl at hk340
 simp only [qd,qc,f375,qm,B0,reduceIte,reduceEqDiff]
 refine qg (v := .agg [pv0_0,v17,.int .i64 s15.Next]) ((z7 (Sep.bk _ _ _ hS374)).trans rfl) ?_
 simp only [f376,zn,B0,reduceIte,reduceEqDiff]
 refine zi (us:=[pv0_0,v17,.int .i64 s15.Next]) rfl (cs':=[pv0_0,v17,
   .int .i64 s15.Next]) (Sep.m1 hS374) hW rfl (qt (SlF.one hv371) (qt (SlN.one hv19) (qt rfl zr))) (nle rfl) rfl (fun h377 hS378=>?_)
 simp only [qe,qa,qv,B0,reduceIte,reduceEqDiff]
 have he:=qh hk340
 subst he
 refine kc (qk (kn (bb:=b9) (oo:=0) (v := .agg [pv0_0,v17,
   .int .i64 s15.Next]) (f376) ((z7 (Sep.bk _ _ _ hS378)).trans rfl)) (qk (kz (v := .int .i64 0) (rfl)) zg)) ?_
 exact ⟨c370,v17,c18,by first | trivial | rfl,hv371,hv19,(Sep.m1 (Sep.m1 (Sep.dc ((Sep.dc (hS378))))))⟩
theorem qe6 {W:Nat→Bool}{h:Heap} (hW:∀ b,
  (geL h.length) b→W b=true) (c_0:Control) (r:Control) (hF:qar c_0=some r) : Ret E W 56 [.agg [lst qi c_0.Brokers,lst qj c_0.Parts,
  .int .i64 c_0.Next]] h (fun v h'=>∃ rv0_0 rc0_0 rv0_1 rc0_1,v = .agg [rv0_0,rv0_1,
  .int .i64 r.Next]∧SlF qi 3 86 rv0_0 r.Brokers rc0_0∧SlN Partition.R 5 39 rv0_1 r.Parts rc0_1∧Sep h' (geL h.length) (rc0_0++(rc0_1++([])))):=by
 refine Ret.of (fn:=x56) rfl (Run.of ?_)
 unfold qar at hF
 have zf0:zc [.agg [lst qi c_0.Brokers,lst qj c_0.Parts,.int .i64 c_0.Next]] 0 = .agg [lst qi c_0.Brokers,lst qj c_0.Parts,
   .int .i64 c_0.Next]:=rfl
 generalize zc [.agg [lst qi c_0.Brokers,lst qj c_0.Parts,.int .i64 c_0.Next]]=fr0 at zf0 ⊢
 have hS:Sep h (geL h.length) []:=Sep.nil h
 simp only [x56,qd,qc,jm,zf0,B0,reduceIte,reduceEqDiff]
 refine z8 (cs:=[lst qi c_0.Brokers,lst qj c_0.Parts,.int .i64 c_0.Next]) hS rfl rfl rfl (fun b1 h2 hS3=>?_)
 simp only [jv,B0,reduceIte,reduceEqDiff]
 refine jc hS3 (fun b5 h6 hS7=>?_)
 simp only [qa,B0,reduceIte,reduceEqDiff]
 refine zu (Sep.m1 hS7) hW (by simp only [B0,reduceIte,reduceEqDiff]) (fun h9 hS10=>?_)
 simp only [zx,qvm,qd,jz,qbk,evp,B0,reduceIte,reduceEqDiff]
 refine ut (n:=3) (f:=qi) ([] : List Broker) hS10 rfl rfl (fun v12 c13 h14 hv15 hS16 hq11=>?_)
 simp only [qmk,B0,reduceIte,reduceEqDiff]
 refine qhf hS16 (fun b18 h19 hS20=>?_)
 simp only [jd,qy,Nat.reduceAdd,Nat.zero_add,Nat.add_zero,qq,z6,B0,reduceIte,reduceEqDiff]
 refine ze (v:=lst qi c_0.Brokers) rfl ?_
 simp only [qdb,B0,reduceIte,reduceEqDiff]
 obtain ⟨l22,hx23,hF24⟩:=ql hF
 have hq25:=nwq (fun z hz=>Sep.dj (Sep.m2 (Sep.m2 hS20)) qa0 (SlF.rowfp hv15 z hz))
 refine qf2 qem ?_
 refine qal (f:=qi) hv15 (Sep.m1 hS20) hW (fun _=>rfl) (fun _=>rfl) (yn (fun _=>rfl)) hx23 (fun v26 c27 h28 hv29 hS30=>?_)
 simp only [qf5,qy,Nat.reduceAdd,Nat.zero_add,Nat.add_zero,qq,qeg,qd9,B0,reduceIte,reduceEqDiff]
 refine ze (v := .int .i64 c_0.Next) rfl ?_
 simp only [qgy,evp,B0,reduceIte,reduceEqDiff]
 refine ze (v := .agg [v26,.nil,.int .i64 c_0.Next]) (qej (qbw (us:=[v26]) (vs:=[v26,.nil,
   .int .i64 0]) (ko (SlF.one hv29)) rfl (nle rfl) (qt (SlF.one hv29) zr) rfl (qbw (us:=[.int .i64 c_0.Next]) (vs:=[v26,.nil,
   .int .i64 c_0.Next]) rfl rfl (nle rfl) rfl rfl qf9))) ?_
 simp only [qdi,B0,reduceIte,reduceEqDiff]
 refine qdt (us:=[v26,.nil,.int .i64 c_0.Next]) rfl (cs':=[v26,.nil,
   .int .i64 c_0.Next]) (Sep.m1 hS30) hW rfl (qt (SlF.one hv29) (qt rfl (qt rfl zr))) (nle rfl) rfl (fun h32 hS33=>?_)
 simp only [zq,qv3,qd,qc,qo,qb,Nat.reduceAdd,Nat.zero_add,Nat.add_zero,qq,qm,B0,reduceIte,reduceEqDiff]
 refine qg (v:=lst qj c_0.Parts) rfl ?_
 simp only [zo,qb,zt,qe,qa,B0,reduceIte,reduceEqDiff]
 obtain ⟨oc46,hX48,hk49⟩:=jh hF24
 simp only [qvt]
 refine ye (σ:=Control) c_0.Parts (fun i44 x45 s125=>ur l22 i44 x45 s125) (fun s fr' h'=>∃ v41 c42,
   fr' 2 = .ptr b5 0∧fr' 3 = .ptr b18 0∧fr' 14=lst qj c_0.Parts∧SlN Partition.R 5 39 v41 s.Parts c42∧Sep h' (geL h.length) ([Blk1 b5 [.nil,.nil,
   .int .i64 0] 29]++([Blk1 b18 [v26,v41,.int .i64 s.Next] 29]++(c27++(c42++([])))))) hX48 ⟨.nil,[],rfl,rfl,rfl,SlN.nil,
   ((Sep.m2 (Sep.m1 (Sep.m1 hS33))) : Sep _ (geL h.length) ([Blk1 b5 [.nil,.nil,.int .i64 0] 29]++([Blk1 b18 [v26,.nil,
   .int .i64 c_0.Next] 29]++(c27++([])))))⟩ (by simp only [B0,reduceIte,reduceEqDiff]) (by simp only [B0,reduceIte,
   reduceEqDiff]) (fun _ _ _ h=>h) rfl rfl (fun _ _ _ _ h=>h) (fun _ _ _ _ h=>h) (fun _ _ _ _ h=>h) (by decide) ?_ ?_
 ·rintro i44 x45 s39 fr58 h59 hx64 ⟨v41,c42,f61,f62,f63,hv43,hS60⟩ f65 f66 oc47 hF50 hr51 Q52 hN53 hB57 hK54 hR55 hE56
  unfold ur at hF50
  simp only [qx8,qd,qc,f63,f65,zw,B0,reduceIte,reduceEqDiff]
  refine qg (v := .ref (qj x45) 0) (yg hx64 rfl) ?_
  simp only [qm,B0,reduceIte,reduceEqDiff]
  refine qg (v := .agg [lst cI x45.Homes,lst cI x45.InStep,.int .i64 x45.Leader,.int .i64 x45.Epoch,.int .i64 x45.Stamp]) rfl ?_
  simp only [jv,B0,reduceIte,reduceEqDiff]
  refine jc hS60 (fun b67 h68 hS69=>?_)
  simp only [zn,B0,reduceIte,reduceEqDiff]
  refine zi (us:=[lst cI x45.Homes,lst cI x45.InStep,.int .i64 x45.Leader,.int .i64 x45.Epoch,.int .i64 x45.Stamp]) rfl (cs':=[lst cI x45.Homes,
    lst cI x45.InStep,.int .i64 x45.Leader,.int .i64 x45.Epoch,.int .i64 x45.Stamp]) hS69 hW rfl rfl (nle rfl) rfl (fun h71 hS72=>?_)
  simp only [qa,qwl,qd,qc,y3,evp,B0,reduceIte,reduceEqDiff]
  refine yf (n:=1) (f:=cI) ([] : List Int) hS72 rfl rfl (fun v73 c74 h75 hv76 hS77=>?_)
  simp only [qo,qb,Nat.reduceAdd,Nat.zero_add,Nat.add_zero,za,qm,B0,reduceIte,reduceEqDiff]
  refine qg (v:=lst cI x45.Homes) ((ji (Sep.bk _ _ _ (Sep.m1 hS77))).trans rfl) ?_
  simp only [qa5,B0,reduceIte,reduceEqDiff]
  obtain ⟨l79,hx80,hF81⟩:=ql hF50
  refine uq (f:=cI) hv76 hS77 hW (fun _=>rfl) (fun _=>rfl) (yn (fun _=>rfl)) hx80 (fun v82 c83 h84 hv85 hS86=>?_)
  simp only [qo,qb,Nat.reduceAdd,Nat.zero_add,Nat.add_zero,za,zn,B0,reduceIte,reduceEqDiff]
  refine zi (us:=[v82]) (ko (SlF.one hv85)) (cs':=[v82,lst cI x45.InStep,.int .i64 x45.Leader,.int .i64 x45.Epoch,
    .int .i64 x45.Stamp]) (Sep.m1 hS86) hW rfl (qt (SlF.one hv85) zr) (nle rfl) rfl (fun h88 hS89=>?_)
  simp only [qa,qvz,qd,qc,y3,evp,B0,reduceIte,reduceEqDiff]
  refine yf (n:=1) (f:=cI) ([] : List Int) hS89 rfl rfl (fun v90 c91 h92 hv93 hS94=>?_)
  simp only [qo,qb,Nat.reduceAdd,Nat.zero_add,Nat.add_zero,za,qm,B0,reduceIte,reduceEqDiff]
  refine qg (v:=lst cI x45.InStep) ((ji (Sep.bk _ _ _ (Sep.m1 hS94))).trans rfl) ?_
  simp only [qa5,B0,reduceIte,reduceEqDiff]
  obtain ⟨l96,hx97,hF98⟩:=ql hF81
  refine uq (f:=cI) hv93 hS94 hW (fun _=>rfl) (fun _=>rfl) (yn (fun _=>rfl)) hx97 (fun v99 c100 h101 hv102 hS103=>?_)
  simp only [qo,qb,Nat.reduceAdd,Nat.zero_add,Nat.add_zero,za,zn,B0,reduceIte,reduceEqDiff]
  refine zi (us:=[v99]) (ko (SlF.one hv102)) (cs':=[v82,v99,.int .i64 x45.Leader,.int .i64 x45.Epoch,
    .int .i64 x45.Stamp]) (Sep.m1 hS103) hW rfl (qt (SlF.one hv102) zr) (nle rfl) rfl (fun h105 hS106=>?_)
  simp only [qa,q3p,qc,f62,qo,qb,Nat.reduceAdd,Nat.zero_add,Nat.add_zero,za,qm,B0,reduceIte,reduceEqDiff]
  refine qg (v:=v41) ((ji (Sep.bk _ _ _ (Sep.m4 hS106))).trans rfl) ?_
  simp only [qm,B0,reduceIte,reduceEqDiff]
  refine qg (v := .agg [v82,v99,.int .i64 x45.Leader,.int .i64 x45.Epoch,.int .i64 x45.Stamp]) ((z7 (Sep.bk _ _ _ hS106)).trans rfl) ?_
  simp only [y3,evp,B0,reduceIte,reduceEqDiff]
  refine qft (R:=Partition.R) (n:=5) (cs:=[v82,v99,.int .i64 x45.Leader,.int .i64 x45.Epoch,
    .int .i64 x45.Stamp]) (os:=c83++(c100)) (Sep.bi2 (c1:=c83) (c2:=c100) (Sep.m2 (Sep.m1 hS106))) (qbw (us:=[v82,v99,.int .i64 x45.Leader,.int .i64 x45.Epoch,
    .int .i64 x45.Stamp]) (vs:=[v82,v99,.int .i64 x45.Leader,.int .i64 x45.Epoch,
    .int .i64 x45.Stamp]) rfl rfl (nle rfl) (qt (SlF.one hv85) (qt (SlF.one hv102) (qt rfl (qt rfl (qt rfl zr))))) rfl qf9) (Partition.RI (x :=
    (Partition.mk l79 l96 x45.Leader x45.Epoch x45.Stamp)) hv85 hv102) rfl (fun v107 c108 h109 hv110 hS111=>?_)
  simp only [qa5,B0,reduceIte,reduceEqDiff]
  obtain ⟨l113,hx114,hF115⟩:=ql hF98
  refine qh5 (R:=Partition.R) (c:=c42) hv43 hv110 (Sep.m5 hS111) hW Partition.RO.len Partition.RO.one hx114 (fun v116 c117 h118 hv119 hS120=>?_)
  simp only [f62,qo,qb,Nat.reduceAdd,Nat.zero_add,Nat.add_zero,za,zn,B0,reduceIte,reduceEqDiff]
  refine zi (us:=[v116]) (ko (SlN.one hv119)) (cs':=[v26,v116,
    .int .i64 s39.Next]) (Sep.m3 hS120) hW rfl (qt (SlN.one hv119) zr) (nle rfl) rfl (fun h122 hS123=>?_)
  simp only [qa,qn,B0,reduceIte,reduceEqDiff]
  have e124:=qh hF115
  exact hN53 _ _ _ e124.symm ⟨v116,c117,f61,f62,f63,hv119,(Sep.m3 (Sep.m2 (Sep.m3 (Sep.m1 (Sep.dc (Sep.m2 hS123))))))⟩ (f65) (f66)
 rintro s126 fr131 h132 rfl ⟨v128,c129,f134,f135,f136,hv130,hS133⟩
 dsimp only [jnO] at hk49
 unfold qgt at hk49
 simp only [qd,qc,f135,qm,B0,reduceIte,reduceEqDiff]
 refine qg (v := .agg [v26,v128,.int .i64 s126.Next]) ((z7 (Sep.bk _ _ _ (Sep.m1 hS133))).trans rfl) ?_
 simp only [f134,zn,B0,reduceIte,reduceEqDiff]
 refine zi (us:=[v26,v128,.int .i64 s126.Next]) rfl (cs':=[v26,v128,
   .int .i64 s126.Next]) hS133 hW rfl (qt (SlF.one hv29) (qt (SlN.one hv130) (qt rfl zr))) (nle rfl) rfl (fun h137 hS138=>?_)
 simp only [qa,qv,B0,reduceIte,reduceEqDiff]
 have he:=qh hk49
 subst he
 refine qb8 (bb:=b5) (oo:=0) (v := .agg [v26,v128,.int .i64 s126.Next]) (by simp only [f134,B0,reduceIte,
   reduceEqDiff]) ((z7 (Sep.bk _ _ _ hS138)).trans rfl) ?_
 exact ⟨v26,c27,v128,c129,by first | trivial | rfl,hv29,hv130,(Sep.m1 (Sep.m1 (Sep.dc ((Sep.dc (hS138))))))⟩
end Go.Proofs.Ytjloihcijdcpeaa.X
