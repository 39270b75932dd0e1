/- The functions' code comes to what the plain functions say (4). -/
import Derived.Test.YtjloihcijdcpeaaXAH3
set_option linter.unusedVariables false
set_option linter.unusedSimpArgs false
set_option maxRecDepth 100000
namespace Go.Proofs.Ytjloihcijdcpeaa.X
open Go
open Nat (reduceEqDiff)
theorem qkg {W:Nat→Bool}{h:Heap} (hW:∀ b,
  (geL h.length) b→W b=true) (v_0:Control) (v_1:Command) (r:Int) (hF:wo v_0 v_1=some r) : Ret E W 83 [.agg [lst qg v_0.Brokers,
  lst qd v_0.Parts,.int .i64 v_0.Next],.agg [.int .i64 v_1.Kind,.int .i64 v_1.Broker,.int .i64 v_1.Epoch,.int .i64 v_1.Part,.int .i64 v_1.Stamp,
  lst cI v_1.InStep]] h (fun v h'=>cut h.length h' E.sz false 9 v=some (.int .i64 r)):=by
 refine Ret.of (fn:=x83) rfl (Run.of ?_)
 unfold wo at hF
 have zf0:zd [.agg [lst qg v_0.Brokers,lst qd v_0.Parts,.int .i64 v_0.Next],.agg [.int .i64 v_1.Kind,.int .i64 v_1.Broker,.int .i64 v_1.Epoch,
   .int .i64 v_1.Part,.int .i64 v_1.Stamp,lst cI v_1.InStep]] 0 = .agg [lst qg v_0.Brokers,lst qd v_0.Parts,.int .i64 v_0.Next]:=rfl
 have zf1:zd [.agg [lst qg v_0.Brokers,lst qd v_0.Parts,.int .i64 v_0.Next],.agg [.int .i64 v_1.Kind,.int .i64 v_1.Broker,.int .i64 v_1.Epoch,
   .int .i64 v_1.Part,.int .i64 v_1.Stamp,lst cI v_1.InStep]] 1 = .agg [.int .i64 v_1.Kind,.int .i64 v_1.Broker,.int .i64 v_1.Epoch,.int .i64 v_1.Part,
   .int .i64 v_1.Stamp,lst cI v_1.InStep]:=rfl
 generalize zd [.agg [lst qg v_0.Brokers,lst qd v_0.Parts,.int .i64 v_0.Next],.agg [.int .i64 v_1.Kind,.int .i64 v_1.Broker,.int .i64 v_1.Epoch,
   .int .i64 v_1.Part,.int .i64 v_1.Stamp,lst cI v_1.InStep]]=fr0 at zf0 zf1 ⊢
 have hS:Sep h (geL h.length) []:=Sep.nil h
 simp only [x83,qf,qe,ja,zf0,B0,reduceIte,reduceEqDiff]
 refine z0 (cs:=[lst qg v_0.Brokers,lst qd v_0.Parts,.int .i64 v_0.Next]) hS rfl rfl rfl (fun b1 h2 hS3=>?_)
 simp only [ja,zf1,B0,reduceIte,reduceEqDiff]
 refine z0 (cs:=[.int .i64 v_1.Kind,.int .i64 v_1.Broker,.int .i64 v_1.Epoch,.int .i64 v_1.Part,.int .i64 v_1.Stamp,
   lst cI v_1.InStep]) hS3 rfl rfl rfl (fun b5 h6 hS7=>?_)
 simp only [qh,qa,B0,reduceIte,reduceEqDiff]
 refine zn (Sep.m1 hS7) hW (by simp only [B0,reduceIte,reduceEqDiff]) (fun h9 hS10=>?_)
 refine zn hS10 hW (by simp only [B0,reduceIte,reduceEqDiff]) (fun h11 hS12=>?_)
 simp only [zo,qqu,qf,qe,qn,qb,Nat.reduceAdd,Nat.zero_add,Nat.add_zero,qq,ql,B0,reduceIte,reduceEqDiff]
 refine qi (v := .int .i64 v_1.Part) rfl ?_
 simp only [qn,qb,Nat.reduceAdd,Nat.zero_add,Nat.add_zero,qq,ql,B0,reduceIte,reduceEqDiff]
 refine qi (v:=lst qd v_0.Parts) rfl ?_
 simp only [zq,qb,zw,qs,qcr,qa,qy,B0,reduceIte,reduceEqDiff]
 refine qu (t:=(decide ((List.length v_0.Parts:Int)≤v_1.Part))) (fun hc13=>?_) (fun hc13=>?_)
 ·rw [iteT hc13] at hF
  simp only [qf,qe,qh,qa,qx,B0,reduceIte,reduceEqDiff]
  have he:=qj hF
  subst he
  simp only [qw,B0,reduceIte,reduceEqDiff]
  exact rfl
 rw [iteF hc13] at hF
 simp only [za,qqd,qf,qe,qn,qb,Nat.reduceAdd,Nat.zero_add,Nat.add_zero,qq,ql,B0,reduceIte,reduceEqDiff]
 refine qi (v:=lst qd v_0.Parts) rfl ?_
 simp only [qn,qb,Nat.reduceAdd,Nat.zero_add,Nat.add_zero,qq,ql,B0,reduceIte,reduceEqDiff]
 refine qi (v := .int .i64 v_1.Part) rfl ?_
 obtain ⟨x14,hx15,hF16⟩:=qm hF
 simp only [z1,B0,reduceIte,reduceEqDiff]
 refine qi (v := .ref (qd x14) 0) (kc hx15 rfl) ?_
 simp only [ql,B0,reduceIte,reduceEqDiff]
 refine qi (v := .agg [lst cI x14.Homes,lst cI x14.InStep,.int .i64 x14.Leader,.int .i64 x14.Epoch,.int .i64 x14.Stamp]) rfl ?_
 simp only [j6,B0,reduceIte,reduceEqDiff]
 refine jg hS12 (fun b17 h18 hS19=>?_)
 simp only [zm,B0,reduceIte,reduceEqDiff]
 refine zk (us:=[lst cI x14.Homes,lst cI x14.InStep,.int .i64 x14.Leader,.int .i64 x14.Epoch,.int .i64 x14.Stamp]) rfl (cs':=[lst cI x14.Homes,lst cI x14.InStep,
   .int .i64 x14.Leader,.int .i64 x14.Epoch,.int .i64 x14.Stamp]) hS19 hW rfl rfl (nle rfl) rfl (fun h21 hS22=>?_)
 simp only [qa,B0,reduceIte,reduceEqDiff]
 refine zn hS22 hW (by simp only [B0,reduceIte,reduceEqDiff]) (fun h23 hS24=>?_)
 simp only [zo,qs3,qf,ka,qzg,qe,qn,qb,Nat.reduceAdd,Nat.zero_add,Nat.add_zero,qq,ql,B0,reduceIte,reduceEqDiff]
 refine qi (v := .int .i64 v_1.Epoch) rfl ?_
 simp only [qn,qb,Nat.reduceAdd,Nat.zero_add,Nat.add_zero,qq,ql,B0,reduceIte,reduceEqDiff]
 refine qi (v := .int .i64 x14.Epoch) rfl ?_
 simp only [qs,qb,kh,qh,qa,q35,qy,B0,reduceIte,reduceEqDiff]
 refine qu (t:=(decide (v_1.Epoch≠x14.Epoch))) (fun hc25=>?_) (fun hc25=>?_)
 ·rw [iteT hc25] at hF16
  simp only [qf,qe,qh,qa,qx,B0,reduceIte,reduceEqDiff]
  have he:=qj hF16
  subst he
  simp only [qw,B0,reduceIte,reduceEqDiff]
  exact rfl
 rw [iteF hc25] at hF16
 simp only [q0l,qf,qe,qn,qb,Nat.reduceAdd,Nat.zero_add,Nat.add_zero,qq,ql,B0,reduceIte,reduceEqDiff]
 refine qi (v := .int .i64 v_1.Broker) rfl ?_
 simp only [qn,qb,Nat.reduceAdd,Nat.zero_add,Nat.add_zero,qq,ql,B0,reduceIte,reduceEqDiff]
 refine qi (v := .int .i64 x14.Leader) rfl ?_
 simp only [qs,qb,kh,qh,qa,qwl,qy,B0,reduceIte,reduceEqDiff]
 refine qu (t:=(decide (v_1.Broker≠x14.Leader))) (fun hc26=>?_) (fun hc26=>?_)
 ·rw [iteT hc26] at hF16
  simp only [qf,qe,qh,qa,qx,B0,reduceIte,reduceEqDiff]
  have he:=qj hF16
  subst he
  simp only [qw,B0,reduceIte,reduceEqDiff]
  exact rfl
 rw [iteF hc26] at hF16
 simp only [qzm,qf,qe,qn,qb,Nat.reduceAdd,Nat.zero_add,Nat.add_zero,qq,ql,B0,reduceIte,reduceEqDiff]
 refine qi (v := .int .i64 v_1.Stamp) rfl ?_
 simp only [qn,qb,Nat.reduceAdd,Nat.zero_add,Nat.add_zero,qq,ql,B0,reduceIte,reduceEqDiff]
 refine qi (v := .int .i64 x14.Stamp) rfl ?_
 simp only [qs,qb,kh,qh,qa,qyh,qy,B0,reduceIte,reduceEqDiff]
 refine qu (t:=(decide (v_1.Stamp≠x14.Stamp))) (fun hc27=>?_) (fun hc27=>?_)
 ·rw [iteT hc27] at hF16
  simp only [qf,qe,qh,qa,qx,B0,reduceIte,reduceEqDiff]
  have he:=qj hF16
  subst he
  simp only [qw,B0,reduceIte,reduceEqDiff]
  exact rfl
 rw [iteF hc27] at hF16
 simp only [q4m,qf,qe,qn,qb,Nat.reduceAdd,Nat.zero_add,Nat.add_zero,qq,ql,B0,reduceIte,reduceEqDiff]
 refine qi (v:=lst cI x14.Homes) rfl ?_
 simp only [qn,qb,Nat.reduceAdd,Nat.zero_add,Nat.add_zero,qq,ql,B0,reduceIte,reduceEqDiff]
 refine qi (v:=lst cI v_1.InStep) rfl ?_
 obtain ⟨v28,hx29,hF30⟩:=qm hF16
 simp only [zg,B0,reduceIte,reduceEqDiff]
 refine z5 rfl (qk zh (qk zh ze)) (qiq (fun b hb=>decide_eq_true hb) x14.Homes v_1.InStep v28 hx29) ?_
 simp only [ji,qb,j5,qh,B0,reduceIte,reduceEqDiff]
 obtain ⟨v34,hx35,hF36⟩:=qm hF30
 refine zt 7 (fun fr' h'=>Sep h' (geL h.length) ([])∧fr' 52 = .bool v34∧fr' 2 = .ref [lst qg v_0.Brokers,lst qd v_0.Parts,
   .int .i64 v_0.Next] 0∧fr' 3 = .ref [.int .i64 v_1.Kind,.int .i64 v_1.Broker,.int .i64 v_1.Epoch,.int .i64 v_1.Part,.int .i64 v_1.Stamp,
   lst cI v_1.InStep] 0∧fr' 5 = .ref [lst cI x14.Homes,lst cI x14.InStep,.int .i64 x14.Leader,.int .i64 x14.Epoch,.int .i64 x14.Stamp] 0) (fun Q31 hN32=>?_) ?_
 ·simp only [List.take_succ_cons,List.take_zero]
  simp only [qc (g:=45),B0,reduceIte,reduceEqDiff]
  refine q9 (t:=(!v28)) (fun hg33=>?_) (fun hg33=>?_)
  ·rw [iteT hg33] at hx35
   simp only [hg33,qc (g:=45),zu,qr,qb,zj,qa,qo,B0,reduceIte,reduceEqDiff]
   have e37:=qj hx35
   exact hN32 _ _ ⟨hS24,by rw [←e37]; simp only [B0,reduceIte,reduceEqDiff],rfl,rfl,rfl⟩
  ·rw [iteF hg33] at hx35
   simp only [hg33,qc (g:=45),qt,qn,qb,Nat.reduceAdd,Nat.zero_add,Nat.add_zero,qq,ql,B0,reduceIte,reduceEqDiff]
   refine qi (v:=lst cI v_1.InStep) rfl ?_
   simp only [hg33,qc (g:=45),qt,qn,qb,Nat.reduceAdd,Nat.zero_add,Nat.add_zero,qq,ql,B0,reduceIte,reduceEqDiff]
   refine qi (v := .int .i64 x14.Leader) rfl ?_
   obtain ⟨v38,hx39,hF40⟩:=qm hx35
   simp only [hg33,qc (g:=45),qt,zg,B0,reduceIte,reduceEqDiff]
   refine z5 rfl (qk zh (qk qp ze)) (qb6 (fun b hb=>decide_eq_true hb) v_1.InStep x14.Leader v38 hx39) ?_
   simp only [hg33,qc (g:=45),qt,ji,qb,j5,qr,zi,qa,qo,B0,reduceIte,reduceEqDiff]
   have e41:=qj hF40
   exact hN32 _ _ ⟨hS24,by rw [←e41]; simp only [B0,reduceIte,reduceEqDiff],rfl,rfl,rfl⟩
 rintro fr42 h47 ⟨hS48,f43,f44,f45,f46⟩
 simp only [List.drop_succ_cons,List.drop_zero]
 simp only [f43,qh,qa,qy,B0,reduceIte,reduceEqDiff]
 refine qu (t:=v34) (fun hc49=>?_) (fun hc49=>?_)
 ·rw [iteT hc49] at hF36
  simp only [qf,qe,qh,qa,qx,B0,reduceIte,reduceEqDiff]
  have he:=qj hF36
  subst he
  simp only [qw,B0,reduceIte,reduceEqDiff]
  exact rfl
 rw [iteF hc49] at hF36
 simp only [za,kj,qpp,qf,qe,f45,qn,qb,Nat.reduceAdd,Nat.zero_add,Nat.add_zero,qq,ql,B0,reduceIte,reduceEqDiff]
 refine qi (v:=lst cI v_1.InStep) rfl ?_
 simp only [zq,qb,zw,qh,qa,B0,reduceIte,reduceEqDiff]
 obtain ⟨oc52,hX54,hk55⟩:=jl hF36
 simp only [qsv]
 refine yf (σ:=Unit) v_1.InStep (fun i50 x51 _=>uy v_0 x14 i50 x51 ) (fun s fr' h'=>fr' 2 = .ref [lst qg v_0.Brokers,
   lst qd v_0.Parts,.int .i64 v_0.Next] 0∧fr' 5 = .ref [lst cI x14.Homes,lst cI x14.InStep,.int .i64 x14.Leader,.int .i64 x14.Epoch,
   .int .i64 x14.Stamp] 0∧fr' 54=lst cI v_1.InStep∧Sep h' (geL h.length) ([])) hX54 ⟨f44,f46,rfl,hS48⟩ (by simp only [B0,reduceIte,reduceEqDiff]) (by simp only [B0,
   reduceIte,reduceEqDiff]) (fun _ _ _ h=>h) rfl rfl (fun _ _ _ _ h=>h) (fun _ _ _ _ h=>h) (fun _ _ _ _ h=>h) (by decide) ?_ ?_
 ·rintro i50 x51 _ fr64 h65 hx70 ⟨f67,f68,f69,hS66⟩ f71 f72 oc53 hF56 hr57 Q58 hN59 hB63 hK60 hR61 hE62
  unfold uy at hF56
  simp only [q2u,qf,qe,f69,f71,z1,B0,reduceIte,reduceEqDiff]
  refine qi (v := .ref (cI x51) 0) (ye hx70 rfl) ?_
  simp only [ql,B0,reduceIte,reduceEqDiff]
  refine qi (v := .int .i64 x51) rfl ?_
  simp only [qh,qa,q0i,qf,qe,f67,qn,qb,Nat.reduceAdd,Nat.zero_add,Nat.add_zero,qq,ql,B0,reduceIte,reduceEqDiff]
  refine qi (v:=lst qg v_0.Brokers) rfl ?_
  obtain ⟨x73,hx74,hF75⟩:=qm hF56
  simp only [qh,z1,B0,reduceIte,reduceEqDiff]
  refine qi (v := .ref (qg x73) 0) (kc hx74 rfl) ?_
  simp only [qn,qb,Nat.reduceAdd,Nat.zero_add,Nat.add_zero,qq,ql,B0,reduceIte,reduceEqDiff]
  refine qi (v := .bool x73.Fenced) rfl ?_
  simp only [qh,B0,reduceIte,reduceEqDiff]
  obtain ⟨v79,hx80,hF81⟩:=qm hF75
  refine zt 6 (fun fr' h'=>Sep h' (geL h.length) ([])∧fr' 72 = .bool v79∧fr' 2 = .ref [lst qg v_0.Brokers,lst qd v_0.Parts,
    .int .i64 v_0.Next] 0∧fr' 5 = .ref [lst cI x14.Homes,lst cI x14.InStep,.int .i64 x14.Leader,.int .i64 x14.Epoch,
    .int .i64 x14.Stamp] 0∧fr' 54=lst cI v_1.InStep∧fr' 55 = .int .i64 (List.length v_1.InStep:Int)∧fr' 56 = .int .i64 (i50:Int)) (fun Q76 hN77=>?_) ?_
  ·simp only [List.take_succ_cons,List.take_zero]
   simp only [qc (g:=66),B0,reduceIte,reduceEqDiff]
   refine q9 (t:=x73.Fenced) (fun hg78=>?_) (fun hg78=>?_)
   ·rw [iteT hg78] at hx80
    simp only [hg78,qc (g:=66),q8,f68,qn,qb,Nat.reduceAdd,Nat.zero_add,Nat.add_zero,qq,ql,B0,reduceIte,reduceEqDiff]
    refine qi (v:=lst cI x14.InStep) rfl ?_
    obtain ⟨v82,hx83,hF84⟩:=qm hx80
    simp only [hg78,qc (g:=66),q8,qh,zg,B0,reduceIte,reduceEqDiff]
    refine z5 rfl (qk zh (qk qp ze)) (qb6 (fun b hb=>decide_eq_true hb) x14.InStep x51 v82 hx83) ?_
    simp only [hg78,qc (g:=66),q8,ji,qb,j5,qr,zj,qa,qo,B0,reduceIte,reduceEqDiff]
    have e85:=qj hF84
    exact hN77 _ _ ⟨hS66,by rw [←e85]; simp only [B0,reduceIte,reduceEqDiff],f67,f68,f69,f72,f71⟩
   ·rw [iteF hg78] at hx80
    simp only [hg78,qc (g:=66),zz,qr,qb,zi,qa,qo,B0,reduceIte,reduceEqDiff]
    have e86:=qj hx80
    exact hN77 _ _ ⟨hS66,by rw [←e86]; simp only [B0,reduceIte,reduceEqDiff],f67,f68,f69,f72,f71⟩
  rintro fr87 h94 ⟨hS95,f88,f89,f90,f91,f92,f93⟩
  simp only [List.drop_succ_cons,List.drop_zero]
  simp only [qa,f88,qy,B0,reduceIte,reduceEqDiff]
  refine qu (t:=v79) (fun hc96=>?_) (fun hc96=>?_)
  ·rw [iteT hc96] at hF81
   simp only [qf,qe,qh,qa,qx,B0,reduceIte,reduceEqDiff]
   have e97:=qj hF81
   subst e97
   have ho98:=hr57 _ rfl
   have hk99:=hk55
   rw [ho98] at hk99
   dsimp only [jnO] at hk99
   apply hR61
   have he:=qj hk99
   subst he
   simp only [qw,B0,reduceIte,reduceEqDiff]
   exact rfl
  rw [iteF hc96] at hF81
  simp only [za,qo,B0,reduceIte,reduceEqDiff]
  have e100:=qj hF81
  exact hN59 _ _ _ e100.symm ⟨f89,f90,f91,hS95⟩ (f93) (f92)
 rintro _ fr102 h103 rfl ⟨f105,f106,f107,hS104⟩
 dsimp only [jnO] at hk55
 unfold qfk at hk55
 simp only [qf,qe,qh,qa,qx,B0,reduceIte,reduceEqDiff]
 have he:=qj hk55
 subst he
 simp only [qw,B0,reduceIte,reduceEqDiff]
 exact rfl
end Go.Proofs.Ytjloihcijdcpeaa.X
namespace Go.Proofs.Ytjloihcijdcpeaa.X
open Go
open Nat (reduceEqDiff)
theorem ql6 {W:Nat→Bool}{h:Heap}{lo:Nat→Prop}{S0:List Obj} (hW:∀ b,
  lo b→W b=true) (v_0:Control) (pv0_0:XV) (pc0_0:List Obj) (ph0_0:SlF qg 3 86 pv0_0 v_0.Brokers pc0_0) (pv0_1:XV) (pc0_1:List Obj)
  (ph0_1:SlN Partition.R 5 39 pv0_1 v_0.Parts pc0_1) (v_1:Command) (r:Control × Int) (hF:qdl v_0 v_1=some r) (hS:Sep h lo (pc0_0++(pc0_1 ++
  (S0)))) : Ret E W 55 [.agg [pv0_0,pv0_1,.int .i64 v_0.Next],.agg [.int .i64 v_1.Kind,.int .i64 v_1.Broker,.int .i64 v_1.Epoch,.int .i64 v_1.Part,.int .i64 v_1.Stamp,
  lst cI v_1.InStep]] h (fun v h'=>∃ rc0_0 rv0_1 rc0_1,v = .tup [.agg [pv0_0,rv0_1,.int .i64 r.1.Next],
  .int .i64 r.2]∧SlF qg 3 86 pv0_0 r.1.Brokers rc0_0∧SlN Partition.R 5 39 rv0_1 r.1.Parts rc0_1∧Sep h' lo (rc0_0++(rc0_1++(S0)))):=by
 refine Ret.of (fn:=x55) rfl (Run.of ?_)
 unfold qdl at hF
 have zf0:zd [.agg [pv0_0,pv0_1,.int .i64 v_0.Next],.agg [.int .i64 v_1.Kind,.int .i64 v_1.Broker,.int .i64 v_1.Epoch,.int .i64 v_1.Part,.int .i64 v_1.Stamp,
   lst cI v_1.InStep]] 0 = .agg [pv0_0,pv0_1,.int .i64 v_0.Next]:=rfl
 have zf1:zd [.agg [pv0_0,pv0_1,.int .i64 v_0.Next],.agg [.int .i64 v_1.Kind,.int .i64 v_1.Broker,.int .i64 v_1.Epoch,.int .i64 v_1.Part,.int .i64 v_1.Stamp,
   lst cI v_1.InStep]] 1 = .agg [.int .i64 v_1.Kind,.int .i64 v_1.Broker,.int .i64 v_1.Epoch,.int .i64 v_1.Part,.int .i64 v_1.Stamp,lst cI v_1.InStep]:=rfl
 generalize zd [.agg [pv0_0,pv0_1,.int .i64 v_0.Next],.agg [.int .i64 v_1.Kind,.int .i64 v_1.Broker,.int .i64 v_1.Epoch,.int .i64 v_1.Part,.int .i64 v_1.Stamp,
   lst cI v_1.InStep]]=fr0 at zf0 zf1 ⊢
 simp only [x55,qf,qe,ja,zf0,B0,reduceIte,reduceEqDiff]
 refine z0 (cs:=[pv0_0,pv0_1,.int .i64 v_0.Next]) hS rfl rfl (qv (SlF.one ph0_0) (qv (SlN.one ph0_1) (qv rfl zx))) (fun b1 h2 hS3=>?_)
 simp only [ja,zf1,B0,reduceIte,reduceEqDiff]
 refine z0 (cs:=[.int .i64 v_1.Kind,.int .i64 v_1.Broker,.int .i64 v_1.Epoch,.int .i64 v_1.Part,.int .i64 v_1.Stamp,
   lst cI v_1.InStep]) hS3 rfl rfl rfl (fun b5 h6 hS7=>?_)
 simp only [j6,B0,reduceIte,reduceEqDiff]
 refine jg hS7 (fun b9 h10 hS11=>?_)
 simp only [qh,qa,B0,reduceIte,reduceEqDiff]
 refine zn (Sep.m1 hS11) hW (by simp only [B0,reduceIte,reduceEqDiff]) (fun h13 hS14=>?_)
 simp only [zo,qqx,qf,qe,qn,qb,Nat.reduceAdd,Nat.zero_add,Nat.add_zero,qq,ql,B0,reduceIte,reduceEqDiff]
 refine qi (v := .int .i64 v_1.Kind) rfl ?_
 simp only [qa,qte,ka,qp5,qf,qe,qs,qb,jb,qh,qtf,qy,B0,reduceIte,reduceEqDiff]
 obtain ⟨oc23,hX24,hk25⟩:=jl hF
 refine qes (t:=(decide (v_1.Kind=1))) (fun fr' h'=>∃ s,oc23 = .nxt s∧∃ v17 c18 c21,
   fr' 2 = .ptr b1 0∧fr' 4 = .ptr b9 0∧SlN Partition.R 5 39 v17 s.1.Parts c18∧SlF qg 3 86 pv0_0 s.2 c21∧Sep h' lo ([Blk1 b1 [pv0_0,v17,
   .int .i64 s.1.Next] 29]++([Blk1 b9 [.nil,.nil,.int .i64 0] 29]++(c21++(c18++(S0)))))) (fun Q26 hN27 hR28 hE29=>⟨fun hc30=>?_,fun hc30=>?_⟩) ?_
 ·rw [iteT hc30] at hX24
  simp only [q4b,qf,qe,qn,qb,Nat.reduceAdd,Nat.zero_add,Nat.add_zero,zb,ql,B0,reduceIte,reduceEqDiff]
  refine qi (v := .int .i64 v_0.Next) ((jk (Sep.bk _ _ _ (Sep.m1 hS14))).trans rfl) ?_
  simp only [qs,qb,jb,qa,q4n,qy,B0,reduceIte,reduceEqDiff]
  refine qu (t:=(decide (v_0.Next=1000))) (fun hc31=>?_) (fun hc31=>?_)
  ·rw [iteT hc31] at hX24
   simp only [qf,qe,ql,B0,reduceIte,reduceEqDiff]
   refine qi (v := .agg [pv0_0,pv0_1,.int .i64 v_0.Next]) ((jf (Sep.bk _ _ _ (Sep.m1 hS14))).trans rfl) ?_
   simp only [zm,B0,reduceIte,reduceEqDiff]
   refine zk (us:=[pv0_0,pv0_1,.int .i64 v_0.Next]) rfl (cs':=[pv0_0,pv0_1,
     .int .i64 v_0.Next]) hS14 hW rfl (qv (SlF.one ph0_0) (qv (SlN.one ph0_1) (qv rfl zx))) (nle rfl) rfl (fun h32 hS33=>?_)
   simp only [qh,qa,qx,B0,reduceIte,reduceEqDiff]
   have e34:=qj hX24
   subst e34
   have hk25':=hk25
   dsimp only [jnO] at hk25'
   apply hR28
   have he:=qj hk25'
   subst he
   refine k7 (qk (ym (bb:=b9) (oo:=0) (v := .agg [pv0_0,pv0_1,
     .int .i64 v_0.Next]) (rfl) ((jf (Sep.bk _ _ _ hS33)).trans rfl)) (qk (xa (v := .int .i64 4) (rfl)) ze)) ?_
   exact ⟨pc0_0,pv0_1,pc0_1,by first | trivial | rfl,ph0_0,ph0_1,(Sep.m1 (Sep.m1 (Sep.dc ((Sep.dc (hS33))))))⟩
  rw [iteF hc31] at hX24
  simp only [za,qzr,qf,qe,qn,qb,Nat.reduceAdd,Nat.zero_add,Nat.add_zero,zb,ql,B0,reduceIte,reduceEqDiff]
  refine qi (v:=pv0_0) ((jk (Sep.bk _ _ _ (Sep.m1 hS14))).trans rfl) ?_
  simp only [qn,qb,Nat.reduceAdd,Nat.zero_add,Nat.add_zero,qq,ql,B0,reduceIte,reduceEqDiff]
  refine qi (v := .int .i64 v_1.Broker) rfl ?_
  simp only [qn,qb,Nat.reduceAdd,Nat.zero_add,Nat.add_zero,zb,ql,B0,reduceIte,reduceEqDiff]
  refine qi (v := .int .i64 v_0.Next) ((jk (Sep.bk _ _ _ (Sep.m1 hS14))).trans rfl) ?_
  simp only [run_build,evp,B0,reduceIte,reduceEqDiff]
  refine qi (v := .agg [.int .i64 v_0.Next,.int .i64 9,.bool false]) rfl ?_
  obtain ⟨x35,hx36,hF37⟩:=qm hX24
  simp only [z1,B0,reduceIte,reduceEqDiff]
  obtain ⟨b38,hb39⟩:=SlF.isrow ph0_0 (kz hx36)
  refine qi (SlF.ia ph0_0 hb39 hx36) ?_
  simp only [zm,B0,reduceIte,reduceEqDiff]
  refine wz (f:=qg) (x':=(Broker.mk v_0.Next 9 false)) (o:=0) ph0_0 (Sep.m2 hS14) hW hb39 hx36 (fun _=>rfl) rfl rfl (nle rfl) rfl
    (fun c42 h40 hv43 hS41=>?_)
  have hx44:=j9 (x':=(Broker.mk v_0.Next 9 false)) hx36
  simp only [qa,q4k,qe,qn,qb,Nat.reduceAdd,Nat.zero_add,Nat.add_zero,zb,ql,B0,reduceIte,reduceEqDiff]
  refine qi (v := .int .i64 v_0.Next) ((jk (Sep.bk _ _ _ (Sep.m2 hS41))).trans rfl) ?_
  simp only [qs,qb,yv,qn,Nat.reduceAdd,Nat.zero_add,Nat.add_zero,zb,zm,B0,reduceIte,reduceEqDiff]
  refine zk (us:=[.int .i64 (IntKind.wrap .i64 (v_0.Next+1))]) rfl (cs':=[pv0_0,pv0_1,
    .int .i64 (IntKind.wrap .i64 (v_0.Next+1))]) (Sep.m2 hS41) hW rfl rfl (nle rfl) rfl (fun h45 hS46=>?_)
  simp only [qa,qo,B0,reduceIte,reduceEqDiff]
  have e47:=qj hF37
  exact hN27 _ _ ⟨_,e47.symm,pv0_1,pc0_1,c42,rfl,rfl,ph0_1,hv43,(Sep.m3 (Sep.m3 (Sep.m2 (Sep.m3 hS46))))⟩
 ·rw [iteF hc30] at hX24
  simp only [qse,qf,qe,qs,qb,jb,qh,qa,qt9,qy,B0,reduceIte,reduceEqDiff]
  refine qu (t:=(decide (v_1.Kind=2))) (fun hc48=>?_) (fun hc48=>?_)
  ·rw [iteT hc48] at hX24
   simp only [qpt,qf,qe,qn,qb,Nat.reduceAdd,Nat.zero_add,Nat.add_zero,zb,ql,B0,reduceIte,reduceEqDiff]
   refine qi (v:=pv0_0) ((jk (Sep.bk _ _ _ (Sep.m1 hS14))).trans rfl) ?_
   simp only [qn,qb,Nat.reduceAdd,Nat.zero_add,Nat.add_zero,qq,ql,B0,reduceIte,reduceEqDiff]
   refine qi (v := .int .i64 v_1.Broker) rfl ?_
   obtain ⟨x49,hx50,hF51⟩:=qm hX24
   simp only [z1,B0,reduceIte,reduceEqDiff]
   obtain ⟨b52,hb53⟩:=SlF.isrow ph0_0 (kz hx50)
   refine qi (SlF.ia ph0_0 hb53 hx50) ?_
   simp only [ql,B0,reduceIte,reduceEqDiff]
   refine qi (v := .agg [.int .i64 x49.Epoch,.int .i64 x49.Left,
     .bool x49.Fenced]) ((SlF.lds (o:=0) ph0_0 (Sep.m2 hS14) hb53 hx50 (fun _=>rfl) (nle rfl)).trans rfl) ?_
   simp only [j6,B0,reduceIte,reduceEqDiff]
   refine jg hS14 (fun b54 h55 hS56=>?_)
   simp only [zm,B0,reduceIte,reduceEqDiff]
   refine zk (us:=[.int .i64 x49.Epoch,.int .i64 x49.Left,.bool x49.Fenced]) rfl (cs':=[.int .i64 x49.Epoch,.int .i64 x49.Left,
     .bool x49.Fenced]) hS56 hW rfl rfl (nle rfl) rfl (fun h58 hS59=>?_)
   simp only [qa,B0,reduceIte,reduceEqDiff]
   refine zn hS59 hW (by simp only [B0,reduceIte,reduceEqDiff]) (fun h60 hS61=>?_)
   simp only [zo,q1o,qf,qe,qn,qb,Nat.reduceAdd,Nat.zero_add,Nat.add_zero,qq,ql,B0,reduceIte,reduceEqDiff]
   refine qi (v := .int .i64 x49.Epoch) rfl ?_
   simp only [qs,qb,jb,qa,q3l,qy,B0,reduceIte,reduceEqDiff]
   refine qu (t:=(decide (x49.Epoch=0))) (fun hc62=>?_) (fun hc62=>?_)
   ·rw [iteT hc62] at hF51
    simp only [qf,qe,ql,B0,reduceIte,reduceEqDiff]
    refine qi (v := .agg [pv0_0,pv0_1,.int .i64 v_0.Next]) ((jf (Sep.bk _ _ _ (Sep.m1 hS61))).trans rfl) ?_
    simp only [zm,B0,reduceIte,reduceEqDiff]
    refine zk (us:=[pv0_0,pv0_1,.int .i64 v_0.Next]) rfl (cs':=[pv0_0,pv0_1,
      .int .i64 v_0.Next]) hS61 hW rfl (qv (SlF.one ph0_0) (qv (SlN.one ph0_1) (qv rfl zx))) (nle rfl) rfl (fun h63 hS64=>?_)
    simp only [qh,qa,qx,B0,reduceIte,reduceEqDiff]
    have e65:=qj hF51
    subst e65
    have hk25':=hk25
    dsimp only [jnO] at hk25'
    apply hR28
    have he:=qj hk25'
    subst he
    refine k7 (qk (ym (bb:=b9) (oo:=0) (v := .agg [pv0_0,pv0_1,
      .int .i64 v_0.Next]) (rfl) ((jf (Sep.bk _ _ _ hS64)).trans rfl)) (qk (xa (v := .int .i64 1) (rfl)) ze)) ?_
    exact ⟨pc0_0,pv0_1,pc0_1,by first | trivial | rfl,ph0_0,ph0_1,(Sep.m1 (Sep.m1 (Sep.dc ((Sep.dc (hS64))))))⟩
   rw [iteF hc62] at hF51
   simp only [za,qzu,qf,qe,qn,qb,Nat.reduceAdd,Nat.zero_add,Nat.add_zero,qq,ql,B0,reduceIte,reduceEqDiff]
   refine qi (v := .int .i64 x49.Epoch) rfl ?_
   simp only [qn,qb,Nat.reduceAdd,Nat.zero_add,Nat.add_zero,qq,ql,B0,reduceIte,reduceEqDiff]
   refine qi (v := .int .i64 v_1.Epoch) rfl ?_
   simp only [qs,qb,kh,qa,qvp,qy,B0,reduceIte,reduceEqDiff]
   refine qu (t:=(decide (x49.Epoch≠v_1.Epoch))) (fun hc66=>?_) (fun hc66=>?_)
   ·rw [iteT hc66] at hF51
    simp only [qf,qe,ql,B0,reduceIte,reduceEqDiff]
    refine qi (v := .agg [pv0_0,pv0_1,.int .i64 v_0.Next]) ((jf (Sep.bk _ _ _ (Sep.m1 hS61))).trans rfl) ?_
    simp only [zm,B0,reduceIte,reduceEqDiff]
    refine zk (us:=[pv0_0,pv0_1,.int .i64 v_0.Next]) rfl (cs':=[pv0_0,pv0_1,
      .int .i64 v_0.Next]) hS61 hW rfl (qv (SlF.one ph0_0) (qv (SlN.one ph0_1) (qv rfl zx))) (nle rfl) rfl (fun h67 hS68=>?_)
    simp only [qh,qa,qx,B0,reduceIte,reduceEqDiff]
    have e69:=qj hF51
    subst e69
    have hk25':=hk25
    dsimp only [jnO] at hk25'
    apply hR28
    have he:=qj hk25'
    subst he
    refine k7 (qk (ym (bb:=b9) (oo:=0) (v := .agg [pv0_0,pv0_1,
      .int .i64 v_0.Next]) (rfl) ((jf (Sep.bk _ _ _ hS68)).trans rfl)) (qk (xa (v := .int .i64 2) (rfl)) ze)) ?_
    exact ⟨pc0_0,pv0_1,pc0_1,by first | trivial | rfl,ph0_0,ph0_1,(Sep.m1 (Sep.m1 (Sep.dc ((Sep.dc (hS68))))))⟩
   rw [iteF hc66] at hF51
   simp only [za,qyx,qe,qn,qb,Nat.reduceAdd,Nat.zero_add,Nat.add_zero,zb,ql,B0,reduceIte,reduceEqDiff]
   refine qi (v:=pv0_0) ((jk (Sep.bk _ _ _ (Sep.m1 hS61))).trans rfl) ?_
   simp only [qn,qb,Nat.reduceAdd,Nat.zero_add,Nat.add_zero,qq,ql,B0,reduceIte,reduceEqDiff]
   refine qi (v := .int .i64 v_1.Broker) rfl ?_
   simp only [z1,B0,reduceIte,reduceEqDiff]
   refine qi (SlF.ia ph0_0 hb53 hx50) ?_
   simp only [qn,qb,Nat.reduceAdd,Nat.zero_add,Nat.add_zero,zb,zm,B0,reduceIte,reduceEqDiff]
   refine wz (f:=qg) (x':=(Broker.mk x49.Epoch 9 x49.Fenced)) (o:=1) ph0_0 (Sep.m2 hS61) hW hb53 hx50 (fun _=>rfl) rfl rfl (nle rfl) rfl
     (fun c72 h70 hv73 hS71=>?_)
   have hx74:=j9 (x':=(Broker.mk x49.Epoch 9 x49.Fenced)) hx50
   simp only [qa,qo,B0,reduceIte,reduceEqDiff]
   have e75:=qj hF51
   exact hN27 _ _ ⟨_,e75.symm,pv0_1,pc0_1,c72,rfl,rfl,ph0_1,hv73,(Sep.m3 (Sep.m2 (Sep.m1 (Sep.m3 hS71))))⟩
  rw [iteF hc48] at hX24
  simp only [qrn,qf,qe,qs,qb,jb,qh,qa,qs4,qy,B0,reduceIte,reduceEqDiff]
  refine qu (t:=(decide (v_1.Kind=3))) (fun hc76=>?_) (fun hc76=>?_)
  ·rw [iteT hc76] at hX24
   simp only [qtk,qf,qe,qn,qb,Nat.reduceAdd,Nat.zero_add,Nat.add_zero,zb,ql,B0,reduceIte,reduceEqDiff]
   refine qi (v:=pv0_0) ((jk (Sep.bk _ _ _ (Sep.m1 hS14))).trans rfl) ?_
   simp only [zq,qb,SlF.plen ph0_0,qh,qa,B0,reduceIte,reduceEqDiff]
   obtain ⟨oc85,hX87,hk88⟩:=jl hX24
   simp only [qpf]
   refine qd7 (σ:=(List Broker)) (fun i83 s118=>qbt i83 s118) (fun s fr' h'=>∃ c81,
     fr' 2 = .ptr b1 0∧fr' 4 = .ptr b9 0∧SlF qg 3 86 pv0_0 s c81∧Sep h' lo ([Blk1 b1 [pv0_0,pv0_1,.int .i64 v_0.Next] 29]++([Blk1 b9 [.nil,.nil,
     .int .i64 0] 29]++(c81++(pc0_1++(S0)))))) hX87 ⟨pc0_0,rfl,rfl,ph0_0,(Sep.m3 (Sep.m2 (Sep.m3 (Sep.m3 hS14))))⟩ (by simp only [B0,reduceIte,
     reduceEqDiff]) (by simp only [B0,reduceIte,reduceEqDiff]) (fun _ _ _ h=>h) rfl rfl (fun _ _ _ _ h=>h) (fun _ _ _ _ h=>h) (fun _ _ _ _ h=>h) (by decide) ?_ ?_
   ·rintro i83 s80 fr97 h98 hx102 ⟨c81,f100,f101,hv82,hS99⟩ f103 f104 oc86 hF89 hr90 Q91 hN92 hB96 hK93 hR94 hE95
    unfold qbt at hF89
    simp only [qrp,qf,qe,f103,qh,qa,qpa,f100,qn,qb,Nat.reduceAdd,Nat.zero_add,Nat.add_zero,zb,ql,B0,reduceIte,
      reduceEqDiff]
    refine qi (v:=pv0_0) ((jk (Sep.bk _ _ _ hS99)).trans rfl) ?_
    obtain ⟨x105,hx106,hF107⟩:=qm hF89
    simp only [qh,z1,B0,reduceIte,reduceEqDiff]
    obtain ⟨b108,hb109⟩:=SlF.isrow hv82 (kz hx106)
    refine qi (SlF.ia hv82 hb109 hx106) ?_
    simp only [qn,qb,Nat.reduceAdd,Nat.zero_add,Nat.add_zero,zb,ql,B0,reduceIte,reduceEqDiff]
    refine qi (v := .int .i64 x105.Left) ((SlF.ld (o:=1) hv82 (Sep.m2 hS99) hb109 hx106 (fun _=>rfl) (nle rfl)).trans rfl) ?_
    simp only [qs,qb,qii,qa,qpz,qy,B0,reduceIte,reduceEqDiff]
    refine qu (t:=(decide ((0:Int)<x105.Left))) (fun hc110=>?_) (fun hc110=>?_)
    ·rw [iteT hc110] at hF107
     simp only [qpc,qe,f100,qn,qb,Nat.reduceAdd,Nat.zero_add,Nat.add_zero,zb,ql,B0,reduceIte,reduceEqDiff]
     refine qi (v:=pv0_0) ((jk (Sep.bk _ _ _ hS99)).trans rfl) ?_
     simp only [qh,z1,B0,reduceIte,reduceEqDiff]
     refine qi (SlF.ia hv82 hb109 hx106) ?_
     simp only [qn,qb,Nat.reduceAdd,Nat.zero_add,Nat.add_zero,zb,ql,B0,reduceIte,reduceEqDiff]
     refine qi (v := .int .i64 x105.Left) ((SlF.ld (o:=1) hv82 (Sep.m2 hS99) hb109 hx106 (fun _=>rfl) (nle rfl)).trans rfl) ?_
     simp only [qs,qb,qgc,z1,B0,reduceIte,reduceEqDiff]
     refine qi (SlF.ia hv82 hb109 hx106) ?_
     simp only [qn,qb,Nat.reduceAdd,Nat.zero_add,Nat.add_zero,zb,zm,B0,reduceIte,reduceEqDiff]
     refine wz (f:=qg) (x':=(Broker.mk x105.Epoch (IntKind.wrap .i64 (x105.Left - 1)) x105.Fenced)) (o:=1) hv82 (Sep.m2 hS99) hW hb109 hx106
       (fun _=>rfl) rfl rfl (nle rfl) rfl (fun c113 h111 hv114 hS112=>?_)
     have hx115:=j9 (x':=(Broker.mk x105.Epoch (IntKind.wrap .i64 (x105.Left - 1)) x105.Fenced)) hx106
     simp only [qa,qo,B0,reduceIte,reduceEqDiff]
     have e116:=qj hF107
     exact hN92 _ _ _ e116.symm ⟨c113,f100,f101,hv114,(Sep.m3 (Sep.m3 (Sep.m1 (Sep.m3 hS112))))⟩ (f103) (f104)
    rw [iteF hc110] at hF107
    simp only [za,qo,B0,reduceIte,reduceEqDiff]
    have e117:=qj hF107
    exact hN92 _ _ _ e117.symm ⟨c81,f100,f101,hv82,(Sep.m3 (Sep.m3 (Sep.m3 (Sep.m3 hS99))))⟩ (f103) (f104)
   rintro s119 fr122 h123 rfl ⟨c120,f125,f126,hv121,hS124⟩
   dsimp only [jnO] at hk88
   unfold qhp at hk88
   simp only [qo,B0,reduceIte,reduceEqDiff]
   have e127:=qj hk88
   exact hN27 _ _ ⟨_,e127.symm,pv0_1,pc0_1,c120,f125,f126,ph0_1,hv121,(Sep.m3 (Sep.m3 (Sep.m3 (Sep.m3 hS124))))⟩
  rw [iteF hc76] at hX24
  simp only [qr6,qf,qe,qs,qb,jb,qh,qa,qo5,qy,B0,reduceIte,reduceEqDiff]
  refine qu (t:=(decide (v_1.Kind=4))) (fun hc129=>?_) (fun hc129=>?_)
  ·rw [iteT hc129] at hX24
   simp only [qs6,qf,qe,qn,qb,Nat.reduceAdd,Nat.zero_add,Nat.add_zero,qq,ql,B0,reduceIte,reduceEqDiff]
   refine qi (v:=lst cI v_1.InStep) rfl ?_
   simp only [zq,qb,zw,qs,jb,qh,B0,reduceIte,reduceEqDiff]
   refine zt 5 (fun fr' h'=>Sep h' lo ([Blk1 b1 [pv0_0,pv0_1,.int .i64 v_0.Next] 29]++([Blk1 b9 [.nil,.nil,
     .int .i64 0] 29]++(pc0_0++(pc0_1++(S0)))))∧fr' 90 = .bool ((decide ((List.length v_1.InStep:Int)=0))||(decide
     ((List.length v_0.Parts:Int)=5)))∧fr' 2 = .ptr b1 0∧fr' 3 = .ref [.int .i64 v_1.Kind,.int .i64 v_1.Broker,.int .i64 v_1.Epoch,.int .i64 v_1.Part,
     .int .i64 v_1.Stamp,lst cI v_1.InStep] 0∧fr' 4 = .ptr b9 0) (fun Q130 hN131=>?_) ?_
   ·simp only [List.take_succ_cons,List.take_zero]
    simp only [qc (g:=85),B0,reduceIte,reduceEqDiff]
    refine q9 (t:=(decide ((List.length v_1.InStep:Int)=0))) (fun hg132=>?_) (fun hg132=>?_)
    ·simp only [hg132,qc (g:=85),zu,qr,qb,zj,qa,qo,B0,reduceIte,reduceEqDiff]
     exact hN131 _ _ ⟨(Sep.m3 (Sep.m2 (Sep.m3 (Sep.m3 hS14)))),by rw [orT hg132]; simp only [B0,reduceIte,reduceEqDiff],rfl,rfl,rfl⟩
    ·simp only [hg132,qc (g:=85),qt,qn,qb,Nat.reduceAdd,Nat.zero_add,Nat.add_zero,zb,ql,B0,reduceIte,reduceEqDiff]
     refine qi (v:=pv0_1) ((jk (Sep.bk _ _ _ (Sep.m1 hS14))).trans rfl) ?_
     simp only [hg132,qc (g:=85),qt,zq,qb,SlN.len ph0_1,qs,jb,qr,zi,qa,qo,B0,reduceIte,
       reduceEqDiff]
     exact hN131 _ _ ⟨(Sep.m3 (Sep.m2 (Sep.m3 (Sep.m3 hS14)))),by rw [orF hg132]; simp only [B0,reduceIte,reduceEqDiff],rfl,rfl,rfl⟩
   rintro fr133 h138 ⟨hS139,f134,f135,f136,f137⟩
   simp only [List.drop_succ_cons,List.drop_zero]
   simp only [qa,qq9,f134,qy,B0,reduceIte,reduceEqDiff]
   refine qu (t:=((decide ((List.length v_1.InStep:Int)=0))||(decide ((List.length v_0.Parts:Int)=5)))) (fun hc140=>?_) (fun hc140=>?_)
   ·rw [iteT hc140] at hX24
    simp only [qf,qe,f135,ql,B0,reduceIte,reduceEqDiff]
    refine qi (v := .agg [pv0_0,pv0_1,.int .i64 v_0.Next]) ((jf (Sep.bk _ _ _ hS139)).trans rfl) ?_
    simp only [f137,zm,B0,reduceIte,reduceEqDiff]
    refine zk (us:=[pv0_0,pv0_1,.int .i64 v_0.Next]) rfl (cs':=[pv0_0,pv0_1,
      .int .i64 v_0.Next]) (Sep.m1 hS139) hW rfl (qv (SlF.one ph0_0) (qv (SlN.one ph0_1) (qv rfl zx))) (nle rfl) rfl (fun h141 hS142=>?_)
    simp only [qh,qa,qx,B0,reduceIte,reduceEqDiff]
    have e143:=qj hX24
    subst e143
    have hk25':=hk25
    dsimp only [jnO] at hk25'
    apply hR28
    have he:=qj hk25'
    subst he
    refine k7 (qk (ym (bb:=b9) (oo:=0) (v := .agg [pv0_0,pv0_1,
      .int .i64 v_0.Next]) (f137) ((jf (Sep.bk _ _ _ hS142)).trans rfl)) (qk (xa (v := .int .i64 4) (rfl)) ze)) ?_
    exact ⟨pc0_0,pv0_1,pc0_1,by first | trivial | rfl,ph0_0,ph0_1,(Sep.m1 (Sep.m1 (Sep.dc ((Sep.dc (hS142))))))⟩
   rw [iteF hc140] at hX24
   simp only [za,qty,jq,qbh,evp,B0,reduceIte,reduceEqDiff]
   refine uk (n:=1) (f:=cI) ([] : List Int) hS139 rfl rfl (fun v145 c146 h147 hv148 hS149 hq144=>?_)
   simp only [f136,jd,qz,Nat.reduceAdd,Nat.zero_add,Nat.add_zero,qq,z8,B0,reduceIte,reduceEqDiff]
   refine zf (v:=lst cI v_1.InStep) rfl ?_
   simp only [qlc,evp,B0,reduceIte,reduceEqDiff]
   refine qhl (n:=1) (f:=cI) ([] : List Int) hS149 rfl rfl (fun v151 c152 h153 hv154 hS155=>?_)
   simp only [f136,qf6,qz,Nat.reduceAdd,Nat.zero_add,Nat.add_zero,qq,qb2,qa2,B0,reduceIte,reduceEqDiff]
   refine zf (v:=lst cI v_1.InStep) rfl ?_
   simp only [f135,qf6,qz,Nat.reduceAdd,Nat.zero_add,Nat.add_zero,zb,qb2,B0,reduceIte,reduceEqDiff]
   refine qks (Sep.ltk hS139) ?_
   refine zf (v:=pv0_1) ((jk (Sep.bk _ _ _ (Sep.m2 hS155))).trans rfl) ?_
   simp only [qde,B0,reduceIte,reduceEqDiff]
   obtain ⟨l157,hx158,hF159⟩:=qm hX24
   have hq160:=nwq (fun z hz=>Sep.dj (Sep.m2 (Sep.m2 hS155)) qav (SlF.rowfp hv148 z hz))
   have hq161:=nwq (fun z hz=>Sep.dj (Sep.m2 (Sep.m3 hS155)) qav (SlF.rowfp hv148 z hz))
   refine qf8 (qh3 (fun z hz=>Sep.dj (Sep.m2 (Sep.m2 hS155)) qav (SlF.rowfp hv148 z hz)) qeu) ?_
   refine qaf (f:=cI) hv148 (Sep.m1 hS155) hW (fun _=>rfl) (fun _=>rfl) (yg (fun _=>rfl)) hx158 (fun v162 c163 h164 hv165 hS166=>?_)
   simp only [qde,B0,reduceIte,reduceEqDiff]
   obtain ⟨l168,hx169,hF170⟩:=qm hF159
   have hq171:=nwq (fun z hz=>Sep.dj (Sep.m2 (Sep.m2 hS166)) qav (SlF.rowfp hv154 z hz))
   have hq172:=nwq (fun z hz=>Sep.dj (Sep.m2 (Sep.m3 hS166)) qav (SlF.rowfp hv154 z hz))
   refine qf8 (qh3 (fun z hz=>Sep.dj (Sep.m2 (Sep.m2 hS166)) qav (SlF.rowfp hv154 z hz)) qeu) ?_
   refine qaf (f:=cI) hv154 (Sep.m1 hS166) hW (fun _=>rfl) (fun _=>rfl) (yg (fun _=>rfl)) hx169 (fun v173 c174 h175 hv176 hS177=>?_)
   simp only [qg2,evp,B0,reduceIte,reduceEqDiff]
   refine zf (v := .agg [v162,v173,.int .i64 (-2),.int .i64 0,.int .i64 0]) (qek (qb0 (us:=[v162]) (vs:=[v162,.nil,.int .i64 0,.int .i64 0,
     .int .i64 0]) (kf (SlF.one hv165)) rfl (nle rfl) (qv (SlF.one hv165) zx) rfl (qb0 (us:=[v173]) (vs:=[v162,v173,.int .i64 0,.int .i64 0,
     .int .i64 0]) (kf (SlF.one hv176)) rfl (nle rfl) (qv (SlF.one hv176) zx) rfl (qb0 (us:=[.int .i64 (-2)]) (vs:=[v162,v173,.int .i64 (-2),
     .int .i64 0,.int .i64 0]) rfl rfl (nle rfl) rfl rfl qf0)))) ?_
   simp only [qbh,evp,B0,reduceIte,reduceEqDiff]
   refine qhn (R:=Partition.R) (n:=5) (cs:=[v162,v173,.int .i64 (-2),.int .i64 0,
     .int .i64 0]) (os:=c163++(c174)) (Sep.bi2 (c1:=c163) (c2:=c174) (Sep.m1 hS177)) (qb0 (us:=[v162,v173,.int .i64 (-2),.int .i64 0,
     .int .i64 0]) (vs:=[v162,v173,.int .i64 (-2),.int .i64 0,
     .int .i64 0]) rfl rfl (nle rfl) (qv (SlF.one hv165) (qv (SlF.one hv176) (qv rfl (qv rfl (qv rfl zx))))) rfl qf0) (Partition.RI (x :=
     (Partition.mk l157 l168 (-2) 0 0)) hv165 hv176) rfl (fun v179 c180 h181 hv182 hS183=>?_)
   simp only [qqi,B0,reduceIte,reduceEqDiff]
   obtain ⟨l185,hx186,hF187⟩:=qm hF170
   refine qkb (R:=Partition.R) (c:=pc0_1) ph0_1 hv182 (Sep.m4 hS183) hW Partition.RO.len Partition.RO.one hx186 (fun v188 c189 h190 hv191 hS192=>?_)
   simp only [f135,jd,qz,Nat.reduceAdd,Nat.zero_add,Nat.add_zero,zb,qcp,B0,reduceIte,reduceEqDiff]
   refine qbn (us:=[v188]) (kf (SlN.one hv191)) (cs':=[pv0_0,v188,
     .int .i64 v_0.Next]) (Sep.m1 hS192) hW rfl (qv (SlN.one hv191) zx) (nle rfl) rfl (fun h194 hS195=>?_)
   simp only [zp,qo,B0,reduceIte,reduceEqDiff]
   have e196:=qj hF187
   exact hN27 _ _ ⟨_,e196.symm,v188,c189,pc0_0,f135,f137,hv191,ph0_0,(Sep.m3 (Sep.m3 (Sep.m3 (Sep.m1 hS195))))⟩
  rw [iteF hc129] at hX24
  simp only [qo2,qf,qe,qs,qb,jb,qh,qa,qru,qy,B0,reduceIte,reduceEqDiff]
  refine qu (t:=(decide (v_1.Kind=5))) (fun hc197=>?_) (fun hc197=>?_)
  ·rw [iteT hc197] at hX24
   simp only [qq1,qf,qe,ql,B0,reduceIte,reduceEqDiff]
   refine qi (v := .agg [pv0_0,pv0_1,.int .i64 v_0.Next]) ((jf (Sep.bk _ _ _ (Sep.m1 hS14))).trans rfl) ?_
   simp only [ql,B0,reduceIte,reduceEqDiff]
   refine qi (v := .agg [.int .i64 v_1.Kind,.int .i64 v_1.Broker,.int .i64 v_1.Epoch,.int .i64 v_1.Part,.int .i64 v_1.Stamp,lst cI v_1.InStep]) rfl ?_
   obtain ⟨v198,hx199,hF200⟩:=qm hX24
   simp only [zg,B0,reduceIte,reduceEqDiff]
   refine z5 rfl (qk (zv (qk (SlF.snap ph0_0 (Sep.m2 hS14) rfl (fun _=>rfl) (fun _=>rfl)) (qk (SlN.snap ph0_1 _ (Sep.m3 hS14) rfl Partition.RO)
     (qk qp ze)))) (qk (zv (qk qp (qk qp (qk qp (qk qp (qk qp (qk zh ze))))))) ze))
     (qkg (fun b hb=>decide_eq_true hb) v_0 v_1 v198 hx199) ?_
   simp only [qh,qa,qt4,qf,qe,qs,qb,kh,qrf,qy,B0,reduceIte,reduceEqDiff]
   refine qu (t:=(decide (v198≠0))) (fun hc201=>?_) (fun hc201=>?_)
   ·rw [iteT hc201] at hF200
    simp only [qtu,qf,qe,ql,B0,reduceIte,reduceEqDiff]
    refine qi (v := .agg [pv0_0,pv0_1,.int .i64 v_0.Next]) ((jf (Sep.bk _ _ _ (Sep.m1 hS14))).trans rfl) ?_
    simp only [qh,zm,B0,reduceIte,reduceEqDiff]
    refine zk (us:=[pv0_0,pv0_1,.int .i64 v_0.Next]) rfl (cs':=[pv0_0,pv0_1,
      .int .i64 v_0.Next]) hS14 hW rfl (qv (SlF.one ph0_0) (qv (SlN.one ph0_1) (qv rfl zx))) (nle rfl) rfl (fun h202 hS203=>?_)
    simp only [qh,qa,qx,B0,reduceIte,reduceEqDiff]
    have e204:=qj hF200
    subst e204
    have hk25':=hk25
    dsimp only [jnO] at hk25'
    apply hR28
    have he:=qj hk25'
    subst he
    refine k7 (qk (ym (bb:=b9) (oo:=0) (v := .agg [pv0_0,pv0_1,
      .int .i64 v_0.Next]) (rfl) ((jf (Sep.bk _ _ _ hS203)).trans rfl)) (qk (xa (v := .int .i64 v198) (rfl)) ze)) ?_
    exact ⟨pc0_0,pv0_1,pc0_1,by first | trivial | rfl,ph0_0,ph0_1,(Sep.m1 (Sep.m1 (Sep.dc ((Sep.dc (hS203))))))⟩
   rw [iteF hc201] at hF200
   simp only [za,qqb,qf,jq,qf6,qz,Nat.reduceAdd,Nat.zero_add,Nat.add_zero,zb,qb2,B0,reduceIte,reduceEqDiff]
   refine qks (Sep.ltk (Sep.m1 hS14)) ?_
   refine zf (v:=pv0_1) ((jk (Sep.bk _ _ _ (Sep.m1 hS14))).trans rfl) ?_
   simp only [qf6,qz,Nat.reduceAdd,Nat.zero_add,Nat.add_zero,qq,qb2,qa2,B0,reduceIte,reduceEqDiff]
   refine zf (v := .int .i64 v_1.Part) rfl ?_
   simp only [qbh,evp,B0,reduceIte,reduceEqDiff]
   refine uk (n:=1) (f:=cI) ([] : List Int) hS14 rfl rfl (fun v206 c207 h208 hv209 hS210 hq205=>?_)
   simp only [jd,qz,Nat.reduceAdd,Nat.zero_add,Nat.add_zero,qq,z8,B0,reduceIte,reduceEqDiff]
   refine zf (v:=lst cI v_1.InStep) rfl ?_
   simp only [qde,B0,reduceIte,reduceEqDiff]
   obtain ⟨l212,hx213,hF214⟩:=qm hF200
   have hq215:=nwq (fun z hz=>Sep.dj (Sep.m1 (Sep.m1 hS210)) qav (SlF.rowfp hv209 z hz))
   have hq216:=nwq (fun z hz=>Sep.dj (Sep.m1 (Sep.m2 hS210)) qav (SlF.rowfp hv209 z hz))
   refine qf8 (qh3 (fun z hz=>Sep.dj (Sep.m1 (Sep.m2 hS210)) qav (SlF.rowfp hv209 z hz)) qeu) ?_
   refine qaf (f:=cI) hv209 hS210 hW (fun _=>rfl) (fun _=>rfl) (yg (fun _=>rfl)) hx213 (fun v217 c218 h219 hv220 hS221=>?_)
   obtain ⟨x223,hx224,hF225⟩:=qm hF214
   simp only [ue,B0,reduceIte,reduceEqDiff]
   obtain ⟨b226,hb227⟩:=SlN.isrow ph0_1 (kz hx224)
   refine zf (SlN.ia ph0_1 hb227 hx224) ?_
   obtain ⟨c230,cs231,os232,hv233,hR234,hS235⟩:=SlG.opn (SlN.toG ph0_1 hb227 Partition.RO.len) hx224 jx Partition.RO.len (Sep.m4 hS221)
   obtain ⟨v237,c238,v241,c242,hv239,hv243,rfl,rfl⟩:=hR234
   have hS236:=Sep.no2 hS235
   simp only [jd,qz,Nat.reduceAdd,Nat.zero_add,Nat.add_zero,zb,qcp,B0,reduceIte,reduceEqDiff]
   refine qg7 (n:=5) (us:=[v217]) (cs:=[v237,v241,.int .i64 x223.Leader,.int .i64 x223.Epoch,.int .i64 x223.Stamp]) (o:=1) (cs':=[v237,v217,
     .int .i64 x223.Leader,.int .i64 x223.Epoch,
     .int .i64 x223.Stamp]) (kf (SlF.one hv220)) hv233 rfl hx224 hS236 hW rfl (qv (SlF.one hv220) zx) (nle rfl) rfl (fun c245 h228 hv246 hS229=>?_)
   simp only [zp,qpb,qe,qn,qb,Nat.reduceAdd,Nat.zero_add,Nat.add_zero,zb,ql,B0,reduceIte,reduceEqDiff]
   refine qi (v:=pv0_1) ((jk (Sep.bk _ _ _ (Sep.m5 hS229))).trans rfl) ?_
   simp only [qn,qb,Nat.reduceAdd,Nat.zero_add,Nat.add_zero,qq,ql,B0,reduceIte,reduceEqDiff]
   refine qi (v := .int .i64 v_1.Part) rfl ?_
   simp only [z1,B0,reduceIte,reduceEqDiff]
   refine qi (SlG.ia hv246 hx224) ?_
   simp only [qn,qb,Nat.reduceAdd,Nat.zero_add,Nat.add_zero,zb,ql,B0,reduceIte,reduceEqDiff]
   refine qi (v := .int .i64 x223.Stamp) ((SlG.ld (o:=4) hv246 rfl hx224 hS229 (nle rfl)).trans rfl) ?_
   simp only [qs,qb,yv,z1,B0,reduceIte,reduceEqDiff]
   refine qi (SlG.ia hv246 hx224) ?_
   simp only [qn,qb,Nat.reduceAdd,Nat.zero_add,Nat.add_zero,zb,zm,B0,reduceIte,reduceEqDiff]
   refine xd (n:=5) (us:=[.int .i64 (IntKind.wrap .i64 (x223.Stamp+1))]) (cs:=[v237,v217,.int .i64 x223.Leader,.int .i64 x223.Epoch,
     .int .i64 x223.Stamp]) (o:=4) (cs':=[v237,v217,.int .i64 x223.Leader,.int .i64 x223.Epoch,
     .int .i64 (IntKind.wrap .i64 (x223.Stamp+1))]) rfl hv246 rfl hx224 hS229 hW rfl rfl (nle rfl) rfl (fun c249 h247 hv250 hS248=>?_)
   simp only [qa,qo,B0,reduceIte,reduceEqDiff]
   obtain ⟨c251,hv252,hS253⟩:=SlG.cls (e':=(Partition.mk x223.Homes l212 x223.Leader x223.Epoch (IntKind.wrap .i64 (x223.Stamp+1)))) (c:=c249) (os:=c238 ++
     (c218)) hv250 rfl hx224 jx (Partition.RI (x:=(Partition.mk x223.Homes l212 x223.Leader x223.Epoch (IntKind.wrap .i64 (x223.Stamp+1)))) hv239 hv220) (Sep.ni2
     (c1:=c238) (c2:=c218) (Sep.m2 (Sep.m2 (Sep.m3 hS248))))
   have hx254:=j9 (x':=(Partition.mk x223.Homes l212 x223.Leader x223.Epoch (IntKind.wrap .i64 (x223.Stamp+1)))) hx224
   have hv255:=SlG.toN hv252
   have e256:=qj hF225
   exact hN27 _ _ ⟨_,e256.symm,pv0_1,c251,pc0_0,rfl,rfl,hv255,ph0_0,(Sep.m3 (Sep.m2 (Sep.m3 (Sep.dc (Sep.m1 hS253)))))⟩
  rw [iteF hc197] at hX24
  simp only [qso,qf,qe,qs,qb,jb,qh,qa,qrk,qy,B0,reduceIte,reduceEqDiff]
  refine qu (t:=(decide (v_1.Kind=6))) (fun hc257=>?_) (fun hc257=>?_)
  ·rw [iteT hc257] at hX24
   simp only [qtx,qf,qe,qn,qb,Nat.reduceAdd,Nat.zero_add,Nat.add_zero,qq,ql,B0,reduceIte,reduceEqDiff]
   refine qi (v := .int .i64 v_1.Part) rfl ?_
   simp only [qn,qb,Nat.reduceAdd,Nat.zero_add,Nat.add_zero,zb,ql,B0,reduceIte,reduceEqDiff]
   refine qi (v:=pv0_1) ((jk (Sep.bk _ _ _ (Sep.m1 hS14))).trans rfl) ?_
   simp only [zq,qb,SlN.len ph0_1,qs,qcr,qa,qq2,qy,B0,reduceIte,reduceEqDiff]
   refine qu (t:=(decide ((List.length v_0.Parts:Int)≤v_1.Part))) (fun hc258=>?_) (fun hc258=>?_)
   ·rw [iteT hc258] at hX24
    simp only [qf,qe,ql,B0,reduceIte,reduceEqDiff]
    refine qi (v := .agg [pv0_0,pv0_1,.int .i64 v_0.Next]) ((jf (Sep.bk _ _ _ (Sep.m1 hS14))).trans rfl) ?_
    simp only [zm,B0,reduceIte,reduceEqDiff]
    refine zk (us:=[pv0_0,pv0_1,.int .i64 v_0.Next]) rfl (cs':=[pv0_0,pv0_1,
      .int .i64 v_0.Next]) hS14 hW rfl (qv (SlF.one ph0_0) (qv (SlN.one ph0_1) (qv rfl zx))) (nle rfl) rfl (fun h259 hS260=>?_)
    simp only [qh,qa,qx,B0,reduceIte,reduceEqDiff]
    have e261:=qj hX24
    subst e261
    have hk25':=hk25
    dsimp only [jnO] at hk25'
    apply hR28
    have he:=qj hk25'
    subst he
    refine k7 (qk (ym (bb:=b9) (oo:=0) (v := .agg [pv0_0,pv0_1,
      .int .i64 v_0.Next]) (rfl) ((jf (Sep.bk _ _ _ hS260)).trans rfl)) (qk (xa (v := .int .i64 1) (rfl)) ze)) ?_
    exact ⟨pc0_0,pv0_1,pc0_1,by first | trivial | rfl,ph0_0,ph0_1,(Sep.m1 (Sep.m1 (Sep.dc ((Sep.dc (hS260))))))⟩
   rw [iteF hc258] at hX24
   simp only [za,qr5,qf,jq,jd,qz,Nat.reduceAdd,Nat.zero_add,Nat.add_zero,zb,z8,B0,reduceIte,reduceEqDiff]
   refine zf (v:=pv0_1) ((jk (Sep.bk _ _ _ (Sep.m1 hS14))).trans rfl) ?_
   simp only [jd,qz,Nat.reduceAdd,Nat.zero_add,Nat.add_zero,qq,z8,B0,reduceIte,reduceEqDiff]
   refine zf (v := .int .i64 v_1.Part) rfl ?_
   obtain ⟨x262,hx263,hF264⟩:=qm hX24
   simp only [ue,B0,reduceIte,reduceEqDiff]
   obtain ⟨b265,hb266⟩:=SlN.isrow ph0_1 (kz hx263)
   refine zf (SlN.ia ph0_1 hb266 hx263) ?_
   obtain ⟨c267,cs268,os269,hv270,hR271,hS272⟩:=SlG.opn (SlN.toG ph0_1 hb266 Partition.RO.len) hx263 jx Partition.RO.len (Sep.m3 hS14)
   obtain ⟨v274,c275,v278,c279,hv276,hv280,rfl,rfl⟩:=hR271
   have hS273:=Sep.no2 hS272
   simp only [jd,qz,Nat.reduceAdd,Nat.zero_add,Nat.add_zero,zb,z8,B0,reduceIte,reduceEqDiff]
   refine zf (v:=v278) ((SlG.ld (o:=1) hv270 rfl hx263 hS273 (nle rfl)).trans rfl) ?_
   simp only [jd,qz,Nat.reduceAdd,Nat.zero_add,Nat.add_zero,qq,z8,B0,reduceIte,reduceEqDiff]
   refine zf (v := .int .i64 v_1.Broker) rfl ?_
   obtain ⟨v282,hx283,hF284⟩:=qm hF264
   simp only [kq,B0,reduceIte,reduceEqDiff]
   refine qds rfl (qk (SlF.snap hv280 (Sep.m2 hS273) rfl (fun _=>rfl) (fun _=>rfl)) (qk qp ze)) (qb6
     (fun b hb=>decide_eq_true hb) x262.InStep v_1.Broker v282 hx283) ?_
   simp only [qf1,qz,j5,jy,B0,reduceIte,reduceEqDiff]
   obtain ⟨v288,hx289,hF290⟩:=qm hF284
   refine qio 8 (fun fr' h'=>Sep h' lo ([Blk1 b1 [pv0_0,pv0_1,.int .i64 v_0.Next] 29]++([Blk1 b9 [.nil,.nil,
     .int .i64 0] 29]++(pc0_0++(c267++(c275++(c279++(S0)))))))∧fr' 163 = .bool v288∧fr' 2 = .ptr b1 0∧fr' 3 = .ref [.int .i64 v_1.Kind,.int .i64 v_1.Broker,
     .int .i64 v_1.Epoch,.int .i64 v_1.Part,.int .i64 v_1.Stamp,lst cI v_1.InStep] 0∧fr' 4 = .ptr b9 0) rfl (fun Q285 hN286=>?_) ?_
   ·simp only [List.take_succ_cons,List.take_zero]
    simp only [z9 (g:=155),B0,reduceIte,reduceEqDiff]
    refine qa3 (t:=(!v282)) (fun hg287=>?_) (fun hg287=>?_)
    ·rw [iteT hg287] at hx289
     simp only [hg287,z9 (g:=155),qbx,u7,qz,zj,zp,qo,B0,reduceIte,reduceEqDiff]
     have e291:=qj hx289
     exact hN286 _ _ ⟨(Sep.m5 (Sep.m4 (Sep.m5 (Sep.m2 (Sep.m2 (Sep.m2 hS273)))))),by rw [←e291]; simp only [B0,reduceIte,reduceEqDiff],rfl,rfl,rfl⟩
    ·rw [iteF hg287] at hx289
     simp only [hg287,z9 (g:=155),jo,jd,qz,Nat.reduceAdd,Nat.zero_add,Nat.add_zero,zb,z8,B0,reduceIte,reduceEqDiff]
     refine zf (v:=pv0_0) ((jk (Sep.bk _ _ _ (Sep.m4 hS273))).trans rfl) ?_
     simp only [hg287,z9 (g:=155),jo,jd,qz,Nat.reduceAdd,Nat.zero_add,Nat.add_zero,qq,z8,B0,reduceIte,reduceEqDiff]
     refine zf (v := .int .i64 v_1.Broker) rfl ?_
     obtain ⟨x292,hx293,hF294⟩:=qm hx289
     simp only [hg287,z9 (g:=155),jo,ue,B0,reduceIte,reduceEqDiff]
     obtain ⟨b295,hb296⟩:=SlF.isrow ph0_0 (kz hx293)
     refine zf (SlF.ia ph0_0 hb296 hx293) ?_
     simp only [hg287,z9 (g:=155),jo,jd,qz,Nat.reduceAdd,Nat.zero_add,Nat.add_zero,zb,z8,B0,reduceIte,reduceEqDiff]
     refine zf (v := .bool x292.Fenced) ((SlF.ld (o:=2) ph0_0 (Sep.m5 hS273) hb296 hx293 (fun _=>rfl) (nle rfl)).trans rfl) ?_
     simp only [hg287,u7,qz,zi,zp,qo,B0,reduceIte,reduceEqDiff]
     have e297:=qj hF294
     exact hN286 _ _ ⟨(Sep.m5 (Sep.m4 (Sep.m5 (Sep.m2 (Sep.m2 (Sep.m2 hS273)))))),by rw [←e297]; simp only [B0,reduceIte,reduceEqDiff],rfl,rfl,rfl⟩
   rintro fr298 h303 ⟨hS304,f299,f300,f301,f302⟩
   simp only [List.drop_succ_cons,List.drop_zero]
   simp only [zp,qqj,f299,qy,B0,reduceIte,reduceEqDiff]
   refine qu (t:=v288) (fun hc305=>?_) (fun hc305=>?_)
   ·rw [iteT hc305] at hF290
    simp only [qf,qe,f300,ql,B0,reduceIte,reduceEqDiff]
    refine qi (v := .agg [pv0_0,pv0_1,.int .i64 v_0.Next]) ((jf (Sep.bk _ _ _ hS304)).trans rfl) ?_
    simp only [f302,zm,B0,reduceIte,reduceEqDiff]
    refine zk (us:=[pv0_0,pv0_1,.int .i64 v_0.Next]) rfl (cs':=[pv0_0,pv0_1,
      .int .i64 v_0.Next]) (Sep.m1 hS304) hW rfl (qv (SlF.one ph0_0) (qv (SlG.one hv270) (qv rfl zx))) (nle rfl) rfl (fun h306 hS307=>?_)
    simp only [qh,qa,qx,B0,reduceIte,reduceEqDiff]
    have e308:=qj hF290
    subst e308
    have hk25':=hk25
    dsimp only [jnO] at hk25'
    apply hR28
    obtain ⟨c309,hv310,hS311⟩:=SlG.cls0 (c:=c267) (os:=c275++(c279)) hv270 rfl hx263 jx (Partition.RI (x:=x262) hv276 hv280) (Sep.ni2 (c1:=c275)
      (c2:=c279) (Sep.m5 (Sep.m5 (Sep.m5 hS307))))
    have hv312:=SlG.toN hv310
    have he:=qj hk25'
    subst he
    refine k7 (qk (ym (bb:=b9) (oo:=0) (v := .agg [pv0_0,pv0_1,
      .int .i64 v_0.Next]) (f302) ((jf (Sep.bk _ _ _ (Sep.m1 hS311))).trans rfl)) (qk (xa (v := .int .i64 4) (rfl)) ze)) ?_
    exact ⟨pc0_0,pv0_1,c309,by first | trivial | rfl,ph0_0,hv312,(Sep.m1 (Sep.dc (Sep.m1 (Sep.dc (Sep.m1 hS311)))))⟩
   rw [iteF hc305] at hF290
   simp only [za,qpx,qe,f300,qn,qb,Nat.reduceAdd,Nat.zero_add,Nat.add_zero,zb,ql,B0,reduceIte,reduceEqDiff]
   refine qi (v:=pv0_1) ((jk (Sep.bk _ _ _ hS304)).trans rfl) ?_
   simp only [f301,qn,qb,Nat.reduceAdd,Nat.zero_add,Nat.add_zero,qq,ql,B0,reduceIte,reduceEqDiff]
   refine qi (v := .int .i64 v_1.Part) rfl ?_
   simp only [f301,qn,qb,Nat.reduceAdd,Nat.zero_add,Nat.add_zero,qq,ql,B0,reduceIte,reduceEqDiff]
   refine qi (v := .int .i64 v_1.Broker) rfl ?_
   simp only [z1,B0,reduceIte,reduceEqDiff]
   refine qi (SlG.ia hv270 hx263) ?_
   simp only [qn,qb,Nat.reduceAdd,Nat.zero_add,Nat.add_zero,zb,zm,B0,reduceIte,reduceEqDiff]
   refine xd (n:=5) (us:=[.int .i64 v_1.Broker]) (cs:=[v274,v278,.int .i64 x262.Leader,.int .i64 x262.Epoch,.int .i64 x262.Stamp]) (o:=2) (cs':=[v274,
     v278,.int .i64 v_1.Broker,.int .i64 x262.Epoch,.int .i64 x262.Stamp]) rfl hv270 rfl hx263 (Sep.m3 hS304) hW rfl rfl (nle rfl) rfl (fun c315 h313 hv316 hS314=>?_)
   simp only [qa,qo,B0,reduceIte,reduceEqDiff]
   obtain ⟨c317,hv318,hS319⟩:=SlG.cls (e':=(Partition.mk x262.Homes x262.InStep v_1.Broker x262.Epoch x262.Stamp)) (c:=c315) (os:=c275 ++
     (c279)) hv316 rfl hx263 jx (Partition.RI (x:=(Partition.mk x262.Homes x262.InStep v_1.Broker x262.Epoch x262.Stamp)) hv276 hv280) (Sep.ni2 (c1:=c275)
     (c2:=c279) (Sep.m2 (Sep.m5 (Sep.m5 hS314))))
   have hx320:=j9 (x':=(Partition.mk x262.Homes x262.InStep v_1.Broker x262.Epoch x262.Stamp)) hx263
   have hv321:=SlG.toN hv318
   have e322:=qj hF290
   exact hN27 _ _ ⟨_,e322.symm,pv0_1,c317,pc0_0,f300,f302,hv321,ph0_0,(Sep.m3 (Sep.m3 (Sep.m3 hS319)))⟩
  rw [iteF hc257] at hX24
  simp only [za,qo,B0,reduceIte,reduceEqDiff]
  have e323:=qj hX24
  exact hN27 _ _ ⟨_,e323.symm,pv0_1,pc0_1,pc0_0,rfl,rfl,ph0_1,ph0_0,(Sep.m3 (Sep.m2 (Sep.m3 (Sep.m3 hS14))))⟩
 rintro fr324 h325 ⟨⟨s15,s20⟩,rfl,v17,c18,c21,f327,f328,hv19,hv22,hS326⟩
 dsimp only [jnO] at hk25
 dsimp only at *
 unfold qc3 at hk25
 simp only [kj,qpe,qf,qe,f327,qn,qb,Nat.reduceAdd,Nat.zero_add,Nat.add_zero,zb,ql,B0,reduceIte,reduceEqDiff]
 refine qi (v:=pv0_0) ((jk (Sep.bk _ _ _ hS326)).trans rfl) ?_
 simp only [zq,qb,SlF.plen hv22,qh,qa,B0,reduceIte,reduceEqDiff]
 obtain ⟨oc337,hX339,hk340⟩:=jl hk25
 simp only [qsy]
 refine qd7 (σ:=(List Broker)) (fun i335 s368=>qc8 i335 s368) (fun s fr' h'=>∃ c333,
   fr' 2 = .ptr b1 0∧fr' 4 = .ptr b9 0∧SlF qg 3 86 pv0_0 s c333∧Sep h' lo ([Blk1 b1 [pv0_0,v17,.int .i64 s15.Next] 29]++([Blk1 b9 [.nil,.nil,
   .int .i64 0] 29]++(c333++(c18++(S0)))))) hX339 ⟨c21,f327,f328,hv22,(Sep.m3 (Sep.m3 (Sep.m3 (Sep.m3 hS326))))⟩ (by simp only [B0,reduceIte,
   reduceEqDiff]) (by simp only [B0,reduceIte,reduceEqDiff]) (fun _ _ _ h=>h) rfl rfl (fun _ _ _ _ h=>h) (fun _ _ _ _ h=>h) (fun _ _ _ _ h=>h) (by decide) ?_ ?_
 ·rintro i335 s332 fr349 h350 hx354 ⟨c333,f352,f353,hv334,hS351⟩ f355 f356 oc338 hF341 hr342 Q343 hN344 hB348 hK345 hR346 hE347
  unfold qc8 at hF341
  simp only [qtb,qf,qe,f355,qh,qa,qpm,jq,f352,jd,qz,Nat.reduceAdd,Nat.zero_add,Nat.add_zero,zb,z8,B0,
    reduceIte,reduceEqDiff]
  refine zf (v:=pv0_0) ((jk (Sep.bk _ _ _ hS351)).trans rfl) ?_
  simp only [jy,qz,f352,jd,Nat.reduceAdd,Nat.zero_add,Nat.add_zero,zb,z8,B0,reduceIte,reduceEqDiff]
  refine zf (v:=pv0_0) ((jk (Sep.bk _ _ _ hS351)).trans rfl) ?_
  obtain ⟨x357,hx358,hF359⟩:=qm hF341
  simp only [jy,qz,ue,B0,reduceIte,reduceEqDiff]
  obtain ⟨b360,hb361⟩:=SlF.isrow hv334 (kz hx358)
  refine zf (SlF.ia hv334 hb361 hx358) ?_
  simp only [jd,qz,Nat.reduceAdd,Nat.zero_add,Nat.add_zero,zb,z8,B0,reduceIte,reduceEqDiff]
  refine zf (v := .int .i64 x357.Left) ((SlF.ld (o:=1) hv334 (Sep.m2 hS351) hb361 hx358 (fun _=>rfl) (nle rfl)).trans rfl) ?_
  simp only [qbq,qz,jb,ue,B0,reduceIte,reduceEqDiff]
  refine zf (SlF.ia hv334 hb361 hx358) ?_
  simp only [jd,qz,Nat.reduceAdd,Nat.zero_add,Nat.add_zero,zb,qcp,B0,reduceIte,reduceEqDiff]
  refine qh8 (f:=qg) (x':=(Broker.mk x357.Epoch x357.Left (decide (x357.Left=0)))) (o:=2) hv334 (Sep.m2 hS351) hW hb361 hx358 (fun _=>rfl) rfl rfl
    (nle rfl) rfl (fun c364 h362 hv365 hS363=>?_)
  have hx366:=j9 (x':=(Broker.mk x357.Epoch x357.Left (decide (x357.Left=0)))) hx358
  simp only [zp,qo,B0,reduceIte,reduceEqDiff]
  have e367:=qj hF359
  exact hN344 _ _ _ e367.symm ⟨c364,f352,f353,hv365,(Sep.m3 (Sep.m3 (Sep.m1 (Sep.m3 hS363))))⟩ (f355) (f356)
 rintro s369 fr372 h373 rfl ⟨c370,f375,f376,hv371,hS374⟩
 dsimp only [jnO] at hk340
 unfold qho at hk340
 simp only [qf,qe,f375,ql,B0,reduceIte,reduceEqDiff]
 refine qi (v := .agg [pv0_0,v17,.int .i64 s15.Next]) ((jf (Sep.bk _ _ _ hS374)).trans rfl) ?_
 simp only [f376,zm,B0,reduceIte,reduceEqDiff]
 refine zk (us:=[pv0_0,v17,.int .i64 s15.Next]) rfl (cs':=[pv0_0,v17,
   .int .i64 s15.Next]) (Sep.m1 hS374) hW rfl (qv (SlF.one hv371) (qv (SlN.one hv19) (qv rfl zx))) (nle rfl) rfl (fun h377 hS378=>?_)
 simp only [qh,qa,qx,B0,reduceIte,reduceEqDiff]
 have he:=qj hk340
 subst he
 refine k7 (qk (ym (bb:=b9) (oo:=0) (v := .agg [pv0_0,v17,
   .int .i64 s15.Next]) (f376) ((jf (Sep.bk _ _ _ hS378)).trans rfl)) (qk (xa (v := .int .i64 0) (rfl)) ze)) ?_
 exact ⟨c370,v17,c18,by first | trivial | rfl,hv371,hv19,(Sep.m1 (Sep.m1 (Sep.dc ((Sep.dc (hS378))))))⟩
theorem qe7 {W:Nat→Bool}{h:Heap} (hW:∀ b,
  (geL h.length) b→W b=true) (c_0:Control) (r:Control) (hF:qap c_0=some r) : Ret E W 56 [.agg [lst qg c_0.Brokers,lst qd c_0.Parts,
  .int .i64 c_0.Next]] h (fun v h'=>∃ rv0_0 rc0_0 rv0_1 rc0_1,v = .agg [rv0_0,rv0_1,
  .int .i64 r.Next]∧SlF qg 3 86 rv0_0 r.Brokers rc0_0∧SlN Partition.R 5 39 rv0_1 r.Parts rc0_1∧Sep h' (geL h.length) (rc0_0++(rc0_1++([])))):=by
 refine Ret.of (fn:=x56) rfl (Run.of ?_)
 unfold qap at hF
 have zf0:zd [.agg [lst qg c_0.Brokers,lst qd c_0.Parts,.int .i64 c_0.Next]] 0 = .agg [lst qg c_0.Brokers,lst qd c_0.Parts,
   .int .i64 c_0.Next]:=rfl
 generalize zd [.agg [lst qg c_0.Brokers,lst qd c_0.Parts,.int .i64 c_0.Next]]=fr0 at zf0 ⊢
 have hS:Sep h (geL h.length) []:=Sep.nil h
 simp only [x56,qf,qe,ja,zf0,B0,reduceIte,reduceEqDiff]
 refine z0 (cs:=[lst qg c_0.Brokers,lst qd c_0.Parts,.int .i64 c_0.Next]) hS rfl rfl rfl (fun b1 h2 hS3=>?_)
 simp only [j6,B0,reduceIte,reduceEqDiff]
 refine jg hS3 (fun b5 h6 hS7=>?_)
 simp only [qa,B0,reduceIte,reduceEqDiff]
 refine zn (Sep.m1 hS7) hW (by simp only [B0,reduceIte,reduceEqDiff]) (fun h9 hS10=>?_)
 simp only [zo,qv6,qf,jq,qbh,evp,B0,reduceIte,reduceEqDiff]
 refine uk (n:=3) (f:=qg) ([] : List Broker) hS10 rfl rfl (fun v12 c13 h14 hv15 hS16 hq11=>?_)
 simp only [qif,B0,reduceIte,reduceEqDiff]
 refine qdk hS16 (fun b18 h19 hS20=>?_)
 simp only [jd,qz,Nat.reduceAdd,Nat.zero_add,Nat.add_zero,qq,z8,B0,reduceIte,reduceEqDiff]
 refine zf (v:=lst qg c_0.Brokers) rfl ?_
 simp only [qde,B0,reduceIte,reduceEqDiff]
 obtain ⟨l22,hx23,hF24⟩:=qm hF
 have hq25:=nwq (fun z hz=>Sep.dj (Sep.m2 (Sep.m2 hS20)) qav (SlF.rowfp hv15 z hz))
 refine qf8 qeu ?_
 refine qaf (f:=qg) hv15 (Sep.m1 hS20) hW (fun _=>rfl) (fun _=>rfl) (yg (fun _=>rfl)) hx23 (fun v26 c27 h28 hv29 hS30=>?_)
 simp only [qf6,qz,Nat.reduceAdd,Nat.zero_add,Nat.add_zero,qq,qb2,qa2,B0,reduceIte,reduceEqDiff]
 refine zf (v := .int .i64 c_0.Next) rfl ?_
 simp only [qg2,evp,B0,reduceIte,reduceEqDiff]
 refine zf (v := .agg [v26,.nil,.int .i64 c_0.Next]) (qek (qb0 (us:=[v26]) (vs:=[v26,.nil,
   .int .i64 0]) (kf (SlF.one hv29)) rfl (nle rfl) (qv (SlF.one hv29) zx) rfl (qb0 (us:=[.int .i64 c_0.Next]) (vs:=[v26,.nil,
   .int .i64 c_0.Next]) rfl rfl (nle rfl) rfl rfl qf0))) ?_
 simp only [qcp,B0,reduceIte,reduceEqDiff]
 refine qbn (us:=[v26,.nil,.int .i64 c_0.Next]) rfl (cs':=[v26,.nil,
   .int .i64 c_0.Next]) (Sep.m1 hS30) hW rfl (qv (SlF.one hv29) (qv rfl (qv rfl zx))) (nle rfl) rfl (fun h32 hS33=>?_)
 simp only [zp,qz7,qf,qe,qn,qb,Nat.reduceAdd,Nat.zero_add,Nat.add_zero,qq,ql,B0,reduceIte,reduceEqDiff]
 refine qi (v:=lst qd c_0.Parts) rfl ?_
 simp only [zq,qb,zw,qh,qa,B0,reduceIte,reduceEqDiff]
 obtain ⟨oc46,hX48,hk49⟩:=jl hF24
 simp only [q4l]
 refine yf (σ:=Control) c_0.Parts (fun i44 x45 s125=>uh l22 i44 x45 s125) (fun s fr' h'=>∃ v41 c42,
   fr' 2 = .ptr b5 0∧fr' 3 = .ptr b18 0∧fr' 14=lst qd c_0.Parts∧SlN Partition.R 5 39 v41 s.Parts c42∧Sep h' (geL h.length) ([Blk1 b5 [.nil,.nil,
   .int .i64 0] 29]++([Blk1 b18 [v26,v41,.int .i64 s.Next] 29]++(c27++(c42++([])))))) hX48 ⟨.nil,[],rfl,rfl,rfl,SlN.nil,
   ((Sep.m2 (Sep.m1 (Sep.m1 hS33))) : Sep _ (geL h.length) ([Blk1 b5 [.nil,.nil,.int .i64 0] 29]++([Blk1 b18 [v26,.nil,
   .int .i64 c_0.Next] 29]++(c27++([])))))⟩ (by simp only [B0,reduceIte,reduceEqDiff]) (by simp only [B0,reduceIte,
   reduceEqDiff]) (fun _ _ _ h=>h) rfl rfl (fun _ _ _ _ h=>h) (fun _ _ _ _ h=>h) (fun _ _ _ _ h=>h) (by decide) ?_ ?_
 ·rintro i44 x45 s39 fr58 h59 hx64 ⟨v41,c42,f61,f62,f63,hv43,hS60⟩ f65 f66 oc47 hF50 hr51 Q52 hN53 hB57 hK54 hR55 hE56
  unfold uh at hF50
  simp only [qyv,qf,qe,f63,f65,z1,B0,reduceIte,reduceEqDiff]
  refine qi (v := .ref (qd x45) 0) (ye hx64 rfl) ?_
  simp only [ql,B0,reduceIte,reduceEqDiff]
  refine qi (v := .agg [lst cI x45.Homes,lst cI x45.InStep,.int .i64 x45.Leader,.int .i64 x45.Epoch,.int .i64 x45.Stamp]) rfl ?_
  simp only [j6,B0,reduceIte,reduceEqDiff]
  refine jg hS60 (fun b67 h68 hS69=>?_)
  simp only [zm,B0,reduceIte,reduceEqDiff]
  refine zk (us:=[lst cI x45.Homes,lst cI x45.InStep,.int .i64 x45.Leader,.int .i64 x45.Epoch,.int .i64 x45.Stamp]) rfl (cs':=[lst cI x45.Homes,
    lst cI x45.InStep,.int .i64 x45.Leader,.int .i64 x45.Epoch,.int .i64 x45.Stamp]) hS69 hW rfl rfl (nle rfl) rfl (fun h71 hS72=>?_)
  simp only [qa,q2a,qf,qe,qbo,evp,B0,reduceIte,reduceEqDiff]
  refine qbe (n:=1) (f:=cI) ([] : List Int) hS72 rfl rfl (fun v73 c74 h75 hv76 hS77=>?_)
  simp only [qn,qb,Nat.reduceAdd,Nat.zero_add,Nat.add_zero,zb,ql,B0,reduceIte,reduceEqDiff]
  refine qi (v:=lst cI x45.Homes) ((jk (Sep.bk _ _ _ (Sep.m1 hS77))).trans rfl) ?_
  simp only [qee,B0,reduceIte,reduceEqDiff]
  obtain ⟨l79,hx80,hF81⟩:=qm hF50
  refine qdb (f:=cI) hv76 hS77 hW (fun _=>rfl) (fun _=>rfl) (yg (fun _=>rfl)) hx80 (fun v82 c83 h84 hv85 hS86=>?_)
  simp only [qn,qb,Nat.reduceAdd,Nat.zero_add,Nat.add_zero,zb,zm,B0,reduceIte,reduceEqDiff]
  refine zk (us:=[v82]) (kf (SlF.one hv85)) (cs':=[v82,lst cI x45.InStep,.int .i64 x45.Leader,.int .i64 x45.Epoch,
    .int .i64 x45.Stamp]) (Sep.m1 hS86) hW rfl (qv (SlF.one hv85) zx) (nle rfl) rfl (fun h88 hS89=>?_)
  simp only [qa,qxh,qf,qe,qbo,evp,B0,reduceIte,reduceEqDiff]
  refine qbe (n:=1) (f:=cI) ([] : List Int) hS89 rfl rfl (fun v90 c91 h92 hv93 hS94=>?_)
  simp only [qn,qb,Nat.reduceAdd,Nat.zero_add,Nat.add_zero,zb,ql,B0,reduceIte,reduceEqDiff]
  refine qi (v:=lst cI x45.InStep) ((jk (Sep.bk _ _ _ (Sep.m1 hS94))).trans rfl) ?_
  simp only [qee,B0,reduceIte,reduceEqDiff]
  obtain ⟨l96,hx97,hF98⟩:=qm hF81
  refine qdb (f:=cI) hv93 hS94 hW (fun _=>rfl) (fun _=>rfl) (yg (fun _=>rfl)) hx97 (fun v99 c100 h101 hv102 hS103=>?_)
  simp only [qn,qb,Nat.reduceAdd,Nat.zero_add,Nat.add_zero,zb,zm,B0,reduceIte,reduceEqDiff]
  refine zk (us:=[v99]) (kf (SlF.one hv102)) (cs':=[v82,v99,.int .i64 x45.Leader,.int .i64 x45.Epoch,
    .int .i64 x45.Stamp]) (Sep.m1 hS103) hW rfl (qv (SlF.one hv102) zx) (nle rfl) rfl (fun h105 hS106=>?_)
  simp only [qa,qvx,qe,f62,qn,qb,Nat.reduceAdd,Nat.zero_add,Nat.add_zero,zb,ql,B0,reduceIte,reduceEqDiff]
  refine qi (v:=v41) ((jk (Sep.bk _ _ _ (Sep.m4 hS106))).trans rfl) ?_
  simp only [ql,B0,reduceIte,reduceEqDiff]
  refine qi (v := .agg [v82,v99,.int .i64 x45.Leader,.int .i64 x45.Epoch,.int .i64 x45.Stamp]) ((jf (Sep.bk _ _ _ hS106)).trans rfl) ?_
  simp only [qbo,evp,B0,reduceIte,reduceEqDiff]
  refine qfl (R:=Partition.R) (n:=5) (cs:=[v82,v99,.int .i64 x45.Leader,.int .i64 x45.Epoch,
    .int .i64 x45.Stamp]) (os:=c83++(c100)) (Sep.bi2 (c1:=c83) (c2:=c100) (Sep.m2 (Sep.m1 hS106))) (qb0 (us:=[v82,v99,.int .i64 x45.Leader,.int .i64 x45.Epoch,
    .int .i64 x45.Stamp]) (vs:=[v82,v99,.int .i64 x45.Leader,.int .i64 x45.Epoch,
    .int .i64 x45.Stamp]) rfl rfl (nle rfl) (qv (SlF.one hv85) (qv (SlF.one hv102) (qv rfl (qv rfl (qv rfl zx))))) rfl qf0) (Partition.RI (x :=
    (Partition.mk l79 l96 x45.Leader x45.Epoch x45.Stamp)) hv85 hv102) rfl (fun v107 c108 h109 hv110 hS111=>?_)
  simp only [qee,B0,reduceIte,reduceEqDiff]
  obtain ⟨l113,hx114,hF115⟩:=qm hF98
  refine qhw (R:=Partition.R) (c:=c42) hv43 hv110 (Sep.m5 hS111) hW Partition.RO.len Partition.RO.one hx114 (fun v116 c117 h118 hv119 hS120=>?_)
  simp only [f62,qn,qb,Nat.reduceAdd,Nat.zero_add,Nat.add_zero,zb,zm,B0,reduceIte,reduceEqDiff]
  refine zk (us:=[v116]) (kf (SlN.one hv119)) (cs':=[v26,v116,
    .int .i64 s39.Next]) (Sep.m3 hS120) hW rfl (qv (SlN.one hv119) zx) (nle rfl) rfl (fun h122 hS123=>?_)
  simp only [qa,qo,B0,reduceIte,reduceEqDiff]
  have e124:=qj hF115
  exact hN53 _ _ _ e124.symm ⟨v116,c117,f61,f62,f63,hv119,(Sep.m3 (Sep.m2 (Sep.m3 (Sep.m1 (Sep.dc (Sep.m2 hS123))))))⟩ (f65) (f66)
 rintro s126 fr131 h132 rfl ⟨v128,c129,f134,f135,f136,hv130,hS133⟩
 dsimp only [jnO] at hk49
 unfold qgx at hk49
 simp only [qf,qe,f135,ql,B0,reduceIte,reduceEqDiff]
 refine qi (v := .agg [v26,v128,.int .i64 s126.Next]) ((jf (Sep.bk _ _ _ (Sep.m1 hS133))).trans rfl) ?_
 simp only [f134,zm,B0,reduceIte,reduceEqDiff]
 refine zk (us:=[v26,v128,.int .i64 s126.Next]) rfl (cs':=[v26,v128,
   .int .i64 s126.Next]) hS133 hW rfl (qv (SlF.one hv29) (qv (SlN.one hv130) (qv rfl zx))) (nle rfl) rfl (fun h137 hS138=>?_)
 simp only [qa,qx,B0,reduceIte,reduceEqDiff]
 have he:=qj hk49
 subst he
 refine uw (bb:=b5) (oo:=0) (v := .agg [v26,v128,.int .i64 s126.Next]) (by simp only [f134,B0,reduceIte,
   reduceEqDiff]) ((jf (Sep.bk _ _ _ hS138)).trans rfl) ?_
 exact ⟨v26,c27,v128,c129,by first | trivial | rfl,hv29,hv130,(Sep.m1 (Sep.m1 (Sep.dc ((Sep.dc (hS138))))))⟩
end Go.Proofs.Ytjloihcijdcpeaa.X
