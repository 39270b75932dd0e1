/- The functions' code comes to what the plain functions say (6). -/
import Derived.Test.YtjloihcijdcpeaaXAH5
set_option linter.unusedVariables false
set_option linter.unusedSimpArgs false
set_option maxRecDepth 100000
namespace Go.Proofs.Ytjloihcijdcpeaa.X
open Go
open Nat (reduceEqDiff)
theorem qjd {W:Nat→Bool}{h:Heap} (hW:∀ b,
  (geL h.length) b→W b=true) (k:Nat) (a_0:Control) (left_1:Int) (r:Int) (hF:qaz k a_0 left_1=some r) : Ret E W 39 [.agg [lst qg a_0.Brokers,
  lst qd a_0.Parts,.int .i64 a_0.Next],.int .i64 left_1] h (fun v h'=>cut h.length h' E.sz false 9 v=some (.int .i64 r)):=by
 refine Ret.of (fn:=x39) rfl (Run.of ?_)
 unfold qaz at hF
 have zf0:zd [.agg [lst qg a_0.Brokers,lst qd a_0.Parts,.int .i64 a_0.Next],.int .i64 left_1] 0 = .agg [lst qg a_0.Brokers,
   lst qd a_0.Parts,.int .i64 a_0.Next]:=rfl
 have zf1:zd [.agg [lst qg a_0.Brokers,lst qd a_0.Parts,.int .i64 a_0.Next],.int .i64 left_1] 1 = .int .i64 left_1:=rfl
 generalize zd [.agg [lst qg a_0.Brokers,lst qd a_0.Parts,.int .i64 a_0.Next],.int .i64 left_1]=fr0 at zf0 zf1 ⊢
 have hS:Sep h (geL h.length) []:=Sep.nil h
 simp only [x39,qf,qe,ja,zf0,B0,reduceIte,reduceEqDiff]
 refine z0 (cs:=[lst qg a_0.Brokers,lst qd a_0.Parts,.int .i64 a_0.Next]) hS rfl rfl rfl (fun b1 h2 hS3=>?_)
 simp only [qh,qa,B0,reduceIte,reduceEqDiff]
 refine zn hS3 hW (by simp only [B0,reduceIte,reduceEqDiff]) (fun h5 hS6=>?_)
 simp only [zo,q0p,qf,qe,qn,qb,Nat.reduceAdd,Nat.zero_add,Nat.add_zero,qq,ql,B0,reduceIte,reduceEqDiff]
 refine qi (v:=lst qg a_0.Brokers) rfl ?_
 obtain ⟨v7,hx8,hF9⟩:=qm hF
 simp only [zf1,qh,zg,B0,reduceIte,reduceEqDiff]
 refine z5 rfl (qk zh (qk qp ze)) (qjp (fun b hb=>decide_eq_true hb) a_0.Brokers left_1 v7 hx8) ?_
 simp only [qh,qa,qwv,qf,qe,qs,qb,k8,qy,B0,reduceIte,reduceEqDiff]
 refine qu (t:=(decide (v7<0))) (fun hc10=>?_) (fun hc10=>?_)
 ·rw [iteT hc10] at hF9
  simp only [qf,qe,qh,qa,qx,B0,reduceIte,reduceEqDiff]
  have he:=qj hF9
  subst he
  simp only [qw,B0,reduceIte,reduceEqDiff]
  exact rfl
 rw [iteF hc10] at hF9
 simp only [za,q0w,qf,qe,qn,qb,Nat.reduceAdd,Nat.zero_add,Nat.add_zero,qq,ql,B0,reduceIte,reduceEqDiff]
 refine qi (v:=lst qd a_0.Parts) rfl ?_
 obtain ⟨v11,hx12,hF13⟩:=qm hF9
 simp only [qh,zg,B0,reduceIte,reduceEqDiff]
 refine z5 rfl (qk zh (qk qp ze)) (qhs (fun b hb=>decide_eq_true hb) k a_0.Parts v7 v11 hx12) ?_
 simp only [qh,qa,q18,qf,qe,qs,qb,k8,qy,B0,reduceIte,reduceEqDiff]
 refine qu (t:=(decide (v11<0))) (fun hc14=>?_) (fun hc14=>?_)
 ·rw [iteT hc14] at hF13
  simp only [qf,qe,qh,qa,qx,B0,reduceIte,reduceEqDiff]
  have he:=qj hF13
  subst he
  simp only [qw,B0,reduceIte,reduceEqDiff]
  exact rfl
 rw [iteF hc14] at hF13
 simp only [za,qf,qe,qh,qa,qx,B0,reduceIte,reduceEqDiff]
 have he:=qj hF13
 subst he
 simp only [qw,B0,reduceIte,reduceEqDiff]
 exact rfl
theorem qjb {W:Nat→Bool}{h:Heap} (hW:∀ b,
  (geL h.length) b→W b=true) (a_0:Command) (left_1:Int) (r:Int) (hF:qa6 a_0 left_1=some r) : Ret E W 40 [.agg [.int .i64 a_0.Kind,.int .i64 a_0.Broker,
  .int .i64 a_0.Epoch,.int .i64 a_0.Part,.int .i64 a_0.Stamp,lst cI a_0.InStep],.int .i64 left_1] h (fun v h'=>cut h.length h' E.sz false 9 v=some (.int .i64 r)):=by
 refine Ret.of (fn:=x40) rfl (Run.of ?_)
 unfold qa6 at hF
 have zf0:zd [.agg [.int .i64 a_0.Kind,.int .i64 a_0.Broker,.int .i64 a_0.Epoch,.int .i64 a_0.Part,.int .i64 a_0.Stamp,lst cI a_0.InStep],
   .int .i64 left_1] 0 = .agg [.int .i64 a_0.Kind,.int .i64 a_0.Broker,.int .i64 a_0.Epoch,.int .i64 a_0.Part,.int .i64 a_0.Stamp,lst cI a_0.InStep]:=rfl
 have zf1:zd [.agg [.int .i64 a_0.Kind,.int .i64 a_0.Broker,.int .i64 a_0.Epoch,.int .i64 a_0.Part,.int .i64 a_0.Stamp,lst cI a_0.InStep],
   .int .i64 left_1] 1 = .int .i64 left_1:=rfl
 generalize zd [.agg [.int .i64 a_0.Kind,.int .i64 a_0.Broker,.int .i64 a_0.Epoch,.int .i64 a_0.Part,.int .i64 a_0.Stamp,lst cI a_0.InStep],
   .int .i64 left_1]=fr0 at zf0 zf1 ⊢
 have hS:Sep h (geL h.length) []:=Sep.nil h
 simp only [x40,qf,qe,ja,zf0,B0,reduceIte,reduceEqDiff]
 refine z0 (cs:=[.int .i64 a_0.Kind,.int .i64 a_0.Broker,.int .i64 a_0.Epoch,.int .i64 a_0.Part,.int .i64 a_0.Stamp,
   lst cI a_0.InStep]) hS rfl rfl rfl (fun b1 h2 hS3=>?_)
 simp only [qh,qa,B0,reduceIte,reduceEqDiff]
 refine zn hS3 hW (by simp only [B0,reduceIte,reduceEqDiff]) (fun h5 hS6=>?_)
 simp only [zo,qzx,qf,qe,qn,qb,Nat.reduceAdd,Nat.zero_add,Nat.add_zero,qq,ql,B0,reduceIte,reduceEqDiff]
 refine qi (v:=lst cI a_0.InStep) rfl ?_
 obtain ⟨v7,hx8,hF9⟩:=qm hF
 simp only [zf1,qh,zg,B0,reduceIte,reduceEqDiff]
 refine z5 rfl (qk zh (qk qp ze)) (qe5 (fun b hb=>decide_eq_true hb) a_0.InStep left_1 v7 hx8) ?_
 simp only [qh,qa,q09,qf,qe,qs,qb,k8,qy,B0,reduceIte,reduceEqDiff]
 refine qu (t:=(decide (v7<0))) (fun hc10=>?_) (fun hc10=>?_)
 ·rw [iteT hc10] at hF9
  simp only [qf,qe,qh,qa,qx,B0,reduceIte,reduceEqDiff]
  have he:=qj hF9
  subst he
  simp only [qw,B0,reduceIte,reduceEqDiff]
  exact rfl
 rw [iteF hc10] at hF9
 simp only [za,qf,qe,qh,qa,qx,B0,reduceIte,reduceEqDiff]
 have he:=qj hF9
 subst he
 simp only [qw,B0,reduceIte,reduceEqDiff]
 exact rfl
theorem qjs {W:Nat→Bool}{h:Heap} (hW:∀ b,
  (geL h.length) b→W b=true) (a_0:Broker) (r:Broker) (hF:some (qbv a_0)=some r) : Ret E W 91 [.agg [.int .i64 a_0.Epoch,.int .i64 a_0.Left,
  .bool a_0.Fenced]] h (fun v h'=>cut h.length h' E.sz false 9 v=some (.agg [.int .i64 r.Epoch,.int .i64 r.Left,.bool r.Fenced])):=by
 refine Ret.of (fn:=x91) rfl (Run.of ?_)
 unfold qbv at hF
 have zf0:zd [.agg [.int .i64 a_0.Epoch,.int .i64 a_0.Left,.bool a_0.Fenced]] 0 = .agg [.int .i64 a_0.Epoch,.int .i64 a_0.Left,.bool a_0.Fenced]:=rfl
 generalize zd [.agg [.int .i64 a_0.Epoch,.int .i64 a_0.Left,.bool a_0.Fenced]]=fr0 at zf0 ⊢
 have hS:Sep h (geL h.length) []:=Sep.nil h
 simp only [x91,qf,qe,ja,zf0,B0,reduceIte,reduceEqDiff]
 refine z0 (cs:=[.int .i64 a_0.Epoch,.int .i64 a_0.Left,.bool a_0.Fenced]) hS rfl rfl rfl (fun b1 h2 hS3=>?_)
 simp only [j6,B0,reduceIte,reduceEqDiff]
 refine jg hS3 (fun b5 h6 hS7=>?_)
 simp only [qa,B0,reduceIte,reduceEqDiff]
 refine zn (Sep.m1 hS7) hW (by simp only [B0,reduceIte,reduceEqDiff]) (fun h9 hS10=>?_)
 simp only [zo,qxn,qf,qe,j6,B0,reduceIte,reduceEqDiff]
 refine jg hS10 (fun b11 h12 hS13=>?_)
 simp only [qa,q20,qf,qe,qn,qb,Nat.reduceAdd,Nat.zero_add,Nat.add_zero,qq,ql,B0,reduceIte,reduceEqDiff]
 refine qi (v := .int .i64 a_0.Epoch) rfl ?_
 simp only [qn,qb,Nat.reduceAdd,Nat.zero_add,Nat.add_zero,zb,zm,B0,reduceIte,reduceEqDiff]
 refine zk (us:=[.int .i64 a_0.Epoch]) rfl (cs':=[.int .i64 a_0.Epoch,.int .i64 0,.bool false]) hS13 hW rfl rfl (nle rfl) rfl (fun h15 hS16=>?_)
 simp only [qa,q2j,qf,qe,qn,qb,Nat.reduceAdd,Nat.zero_add,Nat.add_zero,qq,ql,B0,reduceIte,reduceEqDiff]
 refine qi (v := .int .i64 a_0.Left) rfl ?_
 simp only [qn,qb,Nat.reduceAdd,Nat.zero_add,Nat.add_zero,zb,zm,B0,reduceIte,reduceEqDiff]
 refine zk (us:=[.int .i64 a_0.Left]) rfl (cs':=[.int .i64 a_0.Epoch,.int .i64 a_0.Left,.bool false]) hS16 hW rfl rfl (nle rfl) rfl (fun h17 hS18=>?_)
 simp only [qa,qy4,qf,qe,qn,qb,Nat.reduceAdd,Nat.zero_add,Nat.add_zero,qq,ql,B0,reduceIte,reduceEqDiff]
 refine qi (v := .bool a_0.Fenced) rfl ?_
 simp only [qn,qb,Nat.reduceAdd,Nat.zero_add,Nat.add_zero,zb,zm,B0,reduceIte,reduceEqDiff]
 refine zk (us:=[.bool a_0.Fenced]) rfl (cs':=[.int .i64 a_0.Epoch,.int .i64 a_0.Left,.bool a_0.Fenced]) hS18 hW rfl rfl (nle rfl) rfl (fun h19 hS20=>?_)
 simp only [qa,qf,qe,ql,B0,reduceIte,reduceEqDiff]
 refine qi (v := .agg [.int .i64 a_0.Epoch,.int .i64 a_0.Left,.bool a_0.Fenced]) ((jf (Sep.bk _ _ _ hS20)).trans rfl) ?_
 simp only [zm,B0,reduceIte,reduceEqDiff]
 refine zk (us:=[.int .i64 a_0.Epoch,.int .i64 a_0.Left,.bool a_0.Fenced]) rfl (cs':=[.int .i64 a_0.Epoch,.int .i64 a_0.Left,
   .bool a_0.Fenced]) (Sep.m1 hS20) hW rfl rfl (nle rfl) rfl (fun h21 hS22=>?_)
 simp only [qa,qx,B0,reduceIte,reduceEqDiff]
 have he:=qj hF
 subst he
 refine uw (bb:=b5) (oo:=0) (v := .agg [.int .i64 a_0.Epoch,.int .i64 a_0.Left,.bool a_0.Fenced]) (by simp only [B0,reduceIte,
   reduceEqDiff]) ((jf (Sep.bk _ _ _ hS22)).trans rfl) ?_
 exact (q5d (qk rfl (qk rfl (qk rfl ze))))
theorem qjo {W:Nat→Bool}{h:Heap} (hW:∀ b,
  (geL h.length) b→W b=true) (k:Nat) (a_0:List Broker) (r:List Broker) (hF:qbc k a_0=some r) : Ret E W 71 [lst qg a_0] h
  (fun v h'=>∃ rv0 rc0,v=rv0∧SlF qg 3 86 rv0 r rc0∧Sep h' (geL h.length) (rc0++([]))):=by
 refine Ret.of (fn:=x71) rfl (Run.of ?_)
 unfold qbc at hF
 have zf0:zd [lst qg a_0] 0=lst qg a_0:=rfl
 generalize zd [lst qg a_0]=fr0 at zf0 ⊢
 have hS:Sep h (geL h.length) []:=Sep.nil h
 obtain ⟨l1,hx2,hF3⟩:=qm hF
 simp only [x71,qf,qe,qh,qa,qvq,zf0,zq,qb,zw,qkt,B0,reduceIte,reduceEqDiff]
 refine qk9 (f:=qg) (z:=(Broker.mk (0:Int) (0:Int) false)) hS hx2 rfl (fun v4 c5 h6 hv7 hS8=>?_)
 simp only [qh,qa,qxi,qf,qe,B0,reduceIte,reduceEqDiff]
 obtain ⟨oc20,hX22,hk23⟩:=jl hF3
 simp only [qz2]
 refine uj (σ:=Int × (List Broker)) (fun s55=>ub a_0 s55.1 s55.2) (fun s fr' h'=>∃ c16,
   fr' 0=lst qg a_0∧fr' 3=v4∧fr' 4 = .int .i64 s.1∧SlF qg 3 86 v4 s.2 c16∧Sep h' (geL h.length) (c16++([]))) hX22 ⟨c5,zf0,rfl,rfl,hv7,
   hS8⟩ (fun _ _ _ h=>h) ?_ ?_
 ·rintro ⟨s14,s15⟩ fr32 h33 ⟨c16,f35,f36,f37,hv17,hS34⟩ oc21 hF24 hr25 Q26 hN27 hK28 hR29 hE30
  dsimp only at *
  unfold ub at hF24
  simp only [q36,qf,qe,f37,qh,f35,zq,qb,zw,qs,k8,qa,qy,B0,reduceIte,reduceEqDiff]
  refine qu (t:=(decide (s14<(List.length a_0:Int)))) (fun hc39=>?_) (fun hc39=>?_)
  ·rw [iteT hc39] at hF24
   obtain ⟨x40,hx41,hF42⟩:=qm hF24
   simp only [za,qzj,qf,ka,qwt,qe,f36,qh,f37,f35,z1,B0,reduceIte,reduceEqDiff]
   refine qi (v := .ref (qg x40) 0) (kc hx41 rfl) ?_
   simp only [ql,B0,reduceIte,reduceEqDiff]
   refine qi (v := .agg [.int .i64 x40.Epoch,.int .i64 x40.Left,.bool x40.Fenced]) rfl ?_
   simp only [zg,B0,reduceIte,reduceEqDiff]
   refine z5 rfl (qk (zv (qk qp (qk qp (qk qh9 ze)))) ze) (qjs (fun b hb=>decide_eq_true hb) x40 _ rfl) ?_
   obtain ⟨x43,hx44,hF45⟩:=qm hF42
   simp only [z1,B0,reduceIte,reduceEqDiff]
   obtain ⟨b46,hb47⟩:=SlF.isrow hv17 (kz hx44)
   refine qi (SlF.ia hv17 hb47 hx44) ?_
   simp only [zm,B0,reduceIte,reduceEqDiff]
   refine wz (f:=qg) (x':=(qbv x40)) (o:=0) hv17 hS34 hW hb47 hx44 (fun _=>rfl) rfl rfl (nle rfl) rfl (fun c50 h48 hv51 hS49=>?_)
   have hx52:=j9 (x':=(qbv x40)) hx44
   simp only [qa,kj,qe,f37,qh,qs,qb,yv,qo,B0,reduceIte,reduceEqDiff]
   have e53:=qj hF45
   exact hN27 _ _ _ e53.symm ⟨c50,f35,f36,rfl,hv51,hS49⟩
  rw [iteF hc39] at hF24
  simp only [wh,yu,w7,B0,reduceIte,reduceEqDiff]
  have e54:=qj hF24
  exact hK28 _ _ _ e54.symm ⟨c16,f35,f36,f37,hv17,hS34⟩
 rintro ⟨s56,s57⟩ fr60 h61 rfl ⟨c58,f63,f64,f65,hv59,hS62⟩
 dsimp only [jnO] at hk23
 dsimp only at *
 unfold qfb at hk23
 simp only [qf,qe,f64,qh,qa,qx,B0,reduceIte,reduceEqDiff]
 have he:=qj hk23
 subst he
 simp only [qw,B0,reduceIte,reduceEqDiff]
 exact ⟨v4,c58,by first | trivial | rfl,hv59,hS62⟩
theorem qe4 {W:Nat→Bool}{h:Heap} (hW:∀ b,
  (geL h.length) b→W b=true) (k:Nat) (a_0:List Int) (r:List Int) (hF:qam k a_0=some r) : Ret E W 73 [lst cI a_0] h (fun v h'=>∃ rv0 rc0,
  v=rv0∧SlF cI 1 3 rv0 r rc0∧Sep h' (geL h.length) (rc0++([]))):=by
 refine Ret.of (fn:=x73) rfl (Run.of ?_)
 unfold qam at hF
 have zf0:zd [lst cI a_0] 0=lst cI a_0:=rfl
 generalize zd [lst cI a_0]=fr0 at zf0 ⊢
 have hS:Sep h (geL h.length) []:=Sep.nil h
 obtain ⟨l1,hx2,hF3⟩:=qm hF
 simp only [x73,qf,qe,qh,qa,qxb,zf0,zq,qb,zw,qkt,B0,reduceIte,reduceEqDiff]
 refine qk9 (f:=cI) (z:=(0:Int)) hS hx2 rfl (fun v4 c5 h6 hv7 hS8=>?_)
 simp only [qh,qa,q37,qf,qe,B0,reduceIte,reduceEqDiff]
 obtain ⟨oc20,hX22,hk23⟩:=jl hF3
 simp only [q33]
 refine uj (σ:=Int × (List Int)) (fun s55=>qa7 a_0 s55.1 s55.2) (fun s fr' h'=>∃ c16,
   fr' 0=lst cI a_0∧fr' 3=v4∧fr' 4 = .int .i64 s.1∧SlF cI 1 3 v4 s.2 c16∧Sep h' (geL h.length) (c16++([]))) hX22 ⟨c5,zf0,rfl,rfl,hv7,
   hS8⟩ (fun _ _ _ h=>h) ?_ ?_
 ·rintro ⟨s14,s15⟩ fr32 h33 ⟨c16,f35,f36,f37,hv17,hS34⟩ oc21 hF24 hr25 Q26 hN27 hK28 hR29 hE30
  dsimp only at *
  unfold qa7 at hF24
  simp only [q21,qf,qe,f37,qh,f35,zq,qb,zw,qs,k8,qa,qy,B0,reduceIte,reduceEqDiff]
  refine qu (t:=(decide (s14<(List.length a_0:Int)))) (fun hc39=>?_) (fun hc39=>?_)
  ·rw [iteT hc39] at hF24
   obtain ⟨x40,hx41,hF42⟩:=qm hF24
   simp only [za,q1e,qf,ka,q2c,qe,f36,qh,f37,f35,z1,B0,reduceIte,reduceEqDiff]
   refine qi (v := .ref (cI x40) 0) (kc hx41 rfl) ?_
   simp only [ql,B0,reduceIte,reduceEqDiff]
   refine qi (v := .int .i64 x40) rfl ?_
   obtain ⟨x43,hx44,hF45⟩:=qm hF42
   simp only [z1,B0,reduceIte,reduceEqDiff]
   obtain ⟨b46,hb47⟩:=SlF.isrow hv17 (kz hx44)
   refine qi (SlF.ia hv17 hb47 hx44) ?_
   simp only [zm,B0,reduceIte,reduceEqDiff]
   refine wz (f:=cI) (x':=x40) (o:=0) hv17 hS34 hW hb47 hx44 (fun _=>rfl) rfl rfl (nle rfl) rfl (fun c50 h48 hv51 hS49=>?_)
   have hx52:=j9 (x':=x40) hx44
   simp only [qa,kj,qe,f37,qh,qs,qb,yv,qo,B0,reduceIte,reduceEqDiff]
   have e53:=qj hF45
   exact hN27 _ _ _ e53.symm ⟨c50,f35,f36,rfl,hv51,hS49⟩
  rw [iteF hc39] at hF24
  simp only [wh,yu,w7,B0,reduceIte,reduceEqDiff]
  have e54:=qj hF24
  exact hK28 _ _ _ e54.symm ⟨c16,f35,f36,f37,hv17,hS34⟩
 rintro ⟨s56,s57⟩ fr60 h61 rfl ⟨c58,f63,f64,f65,hv59,hS62⟩
 dsimp only [jnO] at hk23
 dsimp only at *
 unfold qgs at hk23
 simp only [qf,qe,f64,qh,qa,qx,B0,reduceIte,reduceEqDiff]
 have he:=qj hk23
 subst he
 simp only [qw,B0,reduceIte,reduceEqDiff]
 exact ⟨v4,c58,by first | trivial | rfl,hv59,hS62⟩
theorem qie {W:Nat→Bool}{h:Heap} (hW:∀ b,
  (geL h.length) b→W b=true) (k:Nat) (a_0:Partition) (r:Partition) (hF:ur k a_0=some r) : Ret E W 92 [.agg [lst cI a_0.Homes,lst cI a_0.InStep,
  .int .i64 a_0.Leader,.int .i64 a_0.Epoch,.int .i64 a_0.Stamp]] h (fun v h'=>∃ rv0_0 rc0_0 rv0_1 rc0_1,v = .agg [rv0_0,rv0_1,.int .i64 r.Leader,.int .i64 r.Epoch,
  .int .i64 r.Stamp]∧SlF cI 1 3 rv0_0 r.Homes rc0_0∧SlF cI 1 3 rv0_1 r.InStep rc0_1∧Sep h' (geL h.length) (rc0_0++(rc0_1++([])))):=by
 refine Ret.of (fn:=x92) rfl (Run.of ?_)
 unfold ur at hF
 have zf0:zd [.agg [lst cI a_0.Homes,lst cI a_0.InStep,.int .i64 a_0.Leader,.int .i64 a_0.Epoch,.int .i64 a_0.Stamp]] 0 = .agg [lst cI a_0.Homes,lst cI a_0.InStep,
   .int .i64 a_0.Leader,.int .i64 a_0.Epoch,.int .i64 a_0.Stamp]:=rfl
 generalize zd [.agg [lst cI a_0.Homes,lst cI a_0.InStep,.int .i64 a_0.Leader,.int .i64 a_0.Epoch,.int .i64 a_0.Stamp]]=fr0 at zf0 ⊢
 have hS:Sep h (geL h.length) []:=Sep.nil h
 simp only [x92,qf,qe,ja,zf0,B0,reduceIte,reduceEqDiff]
 refine z0 (cs:=[lst cI a_0.Homes,lst cI a_0.InStep,.int .i64 a_0.Leader,.int .i64 a_0.Epoch,.int .i64 a_0.Stamp]) hS rfl rfl rfl (fun b1 h2 hS3=>?_)
 simp only [j6,B0,reduceIte,reduceEqDiff]
 refine jg hS3 (fun b5 h6 hS7=>?_)
 simp only [qa,B0,reduceIte,reduceEqDiff]
 refine zn (Sep.m1 hS7) hW (by simp only [B0,reduceIte,reduceEqDiff]) (fun h9 hS10=>?_)
 simp only [zo,qw4,qf,qe,j6,B0,reduceIte,reduceEqDiff]
 refine jg hS10 (fun b11 h12 hS13=>?_)
 simp only [qa,q1d,qf,qe,qn,qb,Nat.reduceAdd,Nat.zero_add,Nat.add_zero,qq,ql,B0,reduceIte,reduceEqDiff]
 refine qi (v:=lst cI a_0.Homes) rfl ?_
 obtain ⟨v15,hx16,hF17⟩:=qm hF
 simp only [zg,B0,reduceIte,reduceEqDiff]
 refine qbp rfl hS13 (qk zh ze) (qe4 (fun b hb=>decide_eq_true hb) k a_0.Homes v15 hx16) ?_
 rintro v18 h22 ⟨_,c19,rfl,hv20,hS23⟩
 refine ⟨_,qh1 (SlF.free1 hv20),hS23,(js (SlF.pf hv20 (fun _=>rfl)) k9),fun h24 hS25=>?_⟩
 have hS26:Sep h24 (geL h.length) (c19++([Blk1 b11 [.nil,.nil,.int .i64 0,.int .i64 0,.int .i64 0] 39]++([Blk1 b5 [.nil,.nil,.int .i64 0,.int .i64 0,
   .int .i64 0] 39]++([])))):=by simpa only [List.append_assoc,List.nil_append] using hS25
 simp only [qn,qb,Nat.reduceAdd,Nat.zero_add,Nat.add_zero,zb,zm,B0,reduceIte,reduceEqDiff]
 refine zk (us:=[v18]) (kf (SlF.one hv20)) (cs':=[v18,.nil,.int .i64 0,.int .i64 0,
   .int .i64 0]) (Sep.m1 hS26) hW rfl (qv (SlF.one hv20) zx) (nle rfl) rfl (fun h27 hS28=>?_)
 simp only [qa,qz8,qf,qe,qn,qb,Nat.reduceAdd,Nat.zero_add,Nat.add_zero,qq,ql,B0,reduceIte,reduceEqDiff]
 refine qi (v:=lst cI a_0.InStep) rfl ?_
 obtain ⟨v29,hx30,hF31⟩:=qm hF17
 simp only [zg,B0,reduceIte,reduceEqDiff]
 refine qbp rfl hS28 (qk zh ze) (qe4 (fun b hb=>decide_eq_true hb) k a_0.InStep v29 hx30) ?_
 rintro v32 h36 ⟨_,c33,rfl,hv34,hS37⟩
 refine ⟨_,qh1 (SlF.free1 hv34),hS37,(js (SlF.pf hv34 (fun _=>rfl)) k9),fun h38 hS39=>?_⟩
 have hS40:Sep h38 (geL h.length) (c33++([Blk1 b11 [v18,.nil,.int .i64 0,.int .i64 0,.int .i64 0] 39]++(c19++([Blk1 b5 [.nil,.nil,.int .i64 0,.int .i64 0,
   .int .i64 0] 39]++([]))))):=by simpa only [List.append_assoc,List.nil_append] using hS39
 simp only [qn,qb,Nat.reduceAdd,Nat.zero_add,Nat.add_zero,zb,zm,B0,reduceIte,reduceEqDiff]
 refine zk (us:=[v32]) (kf (SlF.one hv34)) (cs':=[v18,v32,.int .i64 0,.int .i64 0,
   .int .i64 0]) (Sep.m1 hS40) hW rfl (qv (SlF.one hv34) zx) (nle rfl) rfl (fun h41 hS42=>?_)
 simp only [qa,q3s,qf,qe,qn,qb,Nat.reduceAdd,Nat.zero_add,Nat.add_zero,qq,ql,B0,reduceIte,reduceEqDiff]
 refine qi (v := .int .i64 a_0.Leader) rfl ?_
 simp only [qn,qb,Nat.reduceAdd,Nat.zero_add,Nat.add_zero,zb,zm,B0,reduceIte,reduceEqDiff]
 refine zk (us:=[.int .i64 a_0.Leader]) rfl (cs':=[v18,v32,.int .i64 a_0.Leader,.int .i64 0,.int .i64 0]) hS42 hW rfl rfl (nle rfl) rfl (fun h43 hS44=>?_)
 simp only [qa,qxa,qf,qe,qn,qb,Nat.reduceAdd,Nat.zero_add,Nat.add_zero,qq,ql,B0,reduceIte,reduceEqDiff]
 refine qi (v := .int .i64 a_0.Epoch) rfl ?_
 simp only [qn,qb,Nat.reduceAdd,Nat.zero_add,Nat.add_zero,zb,zm,B0,reduceIte,reduceEqDiff]
 refine zk (us:=[.int .i64 a_0.Epoch]) rfl (cs':=[v18,v32,.int .i64 a_0.Leader,.int .i64 a_0.Epoch,.int .i64 0]) hS44 hW rfl rfl (nle rfl) rfl (fun h45 hS46=>?_)
 simp only [qa,q1n,qf,qe,qn,qb,Nat.reduceAdd,Nat.zero_add,Nat.add_zero,qq,ql,B0,reduceIte,reduceEqDiff]
 refine qi (v := .int .i64 a_0.Stamp) rfl ?_
 simp only [qn,qb,Nat.reduceAdd,Nat.zero_add,Nat.add_zero,zb,zm,B0,reduceIte,reduceEqDiff]
 refine zk (us:=[.int .i64 a_0.Stamp]) rfl (cs':=[v18,v32,.int .i64 a_0.Leader,.int .i64 a_0.Epoch,
   .int .i64 a_0.Stamp]) hS46 hW rfl rfl (nle rfl) rfl (fun h47 hS48=>?_)
 simp only [qa,qf,qe,ql,B0,reduceIte,reduceEqDiff]
 refine qi (v := .agg [v18,v32,.int .i64 a_0.Leader,.int .i64 a_0.Epoch,.int .i64 a_0.Stamp]) ((jf (Sep.bk _ _ _ hS48)).trans rfl) ?_
 simp only [zm,B0,reduceIte,reduceEqDiff]
 refine zk (us:=[v18,v32,.int .i64 a_0.Leader,.int .i64 a_0.Epoch,.int .i64 a_0.Stamp]) rfl (cs':=[v18,v32,.int .i64 a_0.Leader,.int .i64 a_0.Epoch,
   .int .i64 a_0.Stamp]) (Sep.m3 hS48) hW rfl (qv (SlF.one hv20) (qv (SlF.one hv34) (qv rfl (qv rfl (qv rfl zx))))) (nle rfl) rfl (fun h49 hS50=>?_)
 simp only [qa,qx,B0,reduceIte,reduceEqDiff]
 have he:=qj hF31
 subst he
 refine uw (bb:=b5) (oo:=0) (v := .agg [v18,v32,.int .i64 a_0.Leader,.int .i64 a_0.Epoch,.int .i64 a_0.Stamp]) (by simp only [B0,reduceIte,
   reduceEqDiff]) ((jf (Sep.bk _ _ _ hS50)).trans rfl) ?_
 exact ⟨v18,c19,v32,c33,by first | trivial | rfl,hv20,hv34,(Sep.m1 (Sep.dc ((Sep.dc (hS50)))))⟩
theorem qhr {W:Nat→Bool}{h:Heap} (hW:∀ b,
  (geL h.length) b→W b=true) (k:Nat) (a_0:List Partition) (r:List Partition) (hF:xx k a_0=some r) : Ret E W 72 [lst qd a_0] h
  (fun v h'=>∃ rv0 rc0,v=rv0∧SlN Partition.R 5 39 rv0 r rc0∧Sep h' (geL h.length) (rc0++([]))):=by
 refine Ret.of (fn:=x72) rfl (Run.of ?_)
 unfold xx at hF
 have zf0:zd [lst qd a_0] 0=lst qd a_0:=rfl
 generalize zd [lst qd a_0]=fr0 at zf0 ⊢
 have hS:Sep h (geL h.length) []:=Sep.nil h
 obtain ⟨l1,hx2,hF3⟩:=qm hF
 simp only [x72,qf,qe,qh,qa,qw5,zf0,zq,qb,zw,qkt,B0,reduceIte,reduceEqDiff]
 refine qsj (R:=Partition.R) (e:=(Partition.mk [] [] (0:Int) (0:Int) (0:Int))) (z:=[.nil,.nil,.int .i64 0,.int .i64 0,
   .int .i64 0]) hS hx2 (Partition.RI (x:=(Partition.mk [] [] 0 0 0)) SlF.nil SlF.nil) rfl (fun v4 c5 h6 hv7 hS8=>?_)
 simp only [qh,qa,q1c,qf,qe,B0,reduceIte,reduceEqDiff]
 obtain ⟨oc20,hX22,hk23⟩:=jl hF3
 simp only [q2z]
 refine uj (σ:=Int × (List Partition)) (fun s90=>wk k a_0 s90.1 s90.2) (fun s fr' h'=>∃ c16,
   fr' 0=lst qd a_0∧fr' 3=v4∧fr' 4 = .int .i64 s.1∧SlN Partition.R 5 39 v4 s.2 c16∧Sep h' (geL h.length) (c16++([]))) hX22 ⟨c5,zf0,rfl,rfl,hv7,
   hS8⟩ (fun _ _ _ h=>h) ?_ ?_
 ·rintro ⟨s14,s15⟩ fr32 h33 ⟨c16,f35,f36,f37,hv17,hS34⟩ oc21 hF24 hr25 Q26 hN27 hK28 hR29 hE30
  dsimp only at *
  unfold wk at hF24
  simp only [qzt,qf,qe,f37,qh,f35,zq,qb,zw,qs,k8,qa,qy,B0,reduceIte,reduceEqDiff]
  refine qu (t:=(decide (s14<(List.length a_0:Int)))) (fun hc39=>?_) (fun hc39=>?_)
  ·rw [iteT hc39] at hF24
   obtain ⟨x40,hx41,hF42⟩:=qm hF24
   simp only [za,q4f,qf,ka,qwu,qe,f36,qh,f37,f35,z1,B0,reduceIte,reduceEqDiff]
   refine qi (v := .ref (qd x40) 0) (kc hx41 rfl) ?_
   simp only [ql,B0,reduceIte,reduceEqDiff]
   refine qi (v := .agg [lst cI x40.Homes,lst cI x40.InStep,.int .i64 x40.Leader,.int .i64 x40.Epoch,.int .i64 x40.Stamp]) rfl ?_
   obtain ⟨v43,hx44,hF45⟩:=qm hF42
   simp only [zg,B0,reduceIte,reduceEqDiff]
   refine qbp rfl hS34 (qk (zv (qk zh (qk zh (qk qp (qk qp (qk qp ze)))))) ze) (qie
     (fun b hb=>decide_eq_true hb) k x40 v43 hx44) ?_
   rintro _ h54 ⟨v46,c47,v50,c51,rfl,hv48,hv52,hS55⟩
   refine ⟨_,uz (qv (SlF.free1 hv48) (qv (SlF.free1 hv52) (qv rfl (qv rfl (qv rfl zx))))),hS55,
     (js (SlF.pf hv48 (fun _=>rfl)) (js (SlF.pf hv52 (fun _=>rfl)) k9)),fun h56 hS57=>?_⟩
   have hS58:Sep h56 (geL h.length) (c47++(c51++(c16++([])))):=by simpa only [List.append_assoc,List.nil_append] using hS57
   obtain ⟨x59,hx60,hF61⟩:=qm hF45
   simp only [z1,B0,reduceIte,reduceEqDiff]
   obtain ⟨b62,hb63⟩:=SlN.isrow hv17 (kz hx60)
   refine qi (SlN.ia hv17 hb63 hx60) ?_
   obtain ⟨c66,cs67,os68,hv69,hR70,hS71⟩:=SlG.opn (SlN.toG hv17 hb63 Partition.RO.len) hx60 jx Partition.RO.len (Sep.m2 hS58)
   obtain ⟨v73,c74,v77,c78,hv75,hv79,rfl,rfl⟩:=hR70
   have hS72:=Sep.no2 hS71
   simp only [zm,B0,reduceIte,reduceEqDiff]
   refine xd (n:=5) (us:=[v46,v50,.int .i64 v43.Leader,.int .i64 v43.Epoch,.int .i64 v43.Stamp]) (cs:=[v73,v77,.int .i64 x59.Leader,.int .i64 x59.Epoch,
     .int .i64 x59.Stamp]) (o:=0) (cs':=[v46,v50,.int .i64 v43.Leader,.int .i64 v43.Epoch,
     .int .i64 v43.Stamp]) rfl hv69 rfl hx60 hS72 hW rfl (qv (SlF.one hv48) (qv (SlF.one hv52) (qv rfl (qv rfl (qv rfl zx))))) (nle rfl) rfl
     (fun c81 h64 hv82 hS65=>?_)
   simp only [qa,kj,qe,f37,qh,qs,qb,yv,qo,B0,reduceIte,reduceEqDiff]
   obtain ⟨c83,hv84,hS85⟩:=SlG.cls (e':=v43) (c:=c81) (os:=c47++(c51)) hv82 rfl hx60 jx (Partition.RI (x:=v43) hv48 hv52) (Sep.ni2 (c1:=c47) (c2:=c51)
     (Sep.m2 (Sep.m4 (Sep.m4 hS65))))
   have hx86:=j9 (x':=v43) hx60
   have hv87:=SlG.toN hv84
   have e88:=qj hF61
   exact hN27 _ _ _ e88.symm ⟨c83,f35,f36,rfl,hv87,(Sep.dc (Sep.m1 (Sep.dc (Sep.m1 hS85))))⟩
  rw [iteF hc39] at hF24
  simp only [wh,yu,w7,B0,reduceIte,reduceEqDiff]
  have e89:=qj hF24
  exact hK28 _ _ _ e89.symm ⟨c16,f35,f36,f37,hv17,hS34⟩
 rintro ⟨s91,s92⟩ fr95 h96 rfl ⟨c93,f98,f99,f100,hv94,hS97⟩
 dsimp only [jnO] at hk23
 dsimp only at *
 unfold qdg at hk23
 simp only [qf,qe,f99,qh,qa,qx,B0,reduceIte,reduceEqDiff]
 have he:=qj hk23
 subst he
 simp only [qw,B0,reduceIte,reduceEqDiff]
 exact ⟨v4,c93,by first | trivial | rfl,hv94,hS97⟩
theorem qbj {W:Nat→Bool}{h:Heap} (hW:∀ b,
  (geL h.length) b→W b=true) (k:Nat) (a_0:Control) (r:Control) (hF:y4 k a_0=some r) : Ret E W 41 [.agg [lst qg a_0.Brokers,
  lst qd a_0.Parts,.int .i64 a_0.Next]] h (fun v h'=>∃ rv0_0 rc0_0 rv0_1 rc0_1,v = .agg [rv0_0,rv0_1,
  .int .i64 r.Next]∧SlF qg 3 86 rv0_0 r.Brokers rc0_0∧SlN Partition.R 5 39 rv0_1 r.Parts rc0_1∧Sep h' (geL h.length) (rc0_0++(rc0_1++([])))):=by
 refine Ret.of (fn:=x41) rfl (Run.of ?_)
 unfold y4 at hF
 have zf0:zd [.agg [lst qg a_0.Brokers,lst qd a_0.Parts,.int .i64 a_0.Next]] 0 = .agg [lst qg a_0.Brokers,lst qd a_0.Parts,
   .int .i64 a_0.Next]:=rfl
 generalize zd [.agg [lst qg a_0.Brokers,lst qd a_0.Parts,.int .i64 a_0.Next]]=fr0 at zf0 ⊢
 have hS:Sep h (geL h.length) []:=Sep.nil h
 simp only [x41,qf,qe,ja,zf0,B0,reduceIte,reduceEqDiff]
 refine z0 (cs:=[lst qg a_0.Brokers,lst qd a_0.Parts,.int .i64 a_0.Next]) hS rfl rfl rfl (fun b1 h2 hS3=>?_)
 simp only [j6,B0,reduceIte,reduceEqDiff]
 refine jg hS3 (fun b5 h6 hS7=>?_)
 simp only [qa,B0,reduceIte,reduceEqDiff]
 refine zn (Sep.m1 hS7) hW (by simp only [B0,reduceIte,reduceEqDiff]) (fun h9 hS10=>?_)
 simp only [zo,q0k,qf,qe,j6,B0,reduceIte,reduceEqDiff]
 refine jg hS10 (fun b11 h12 hS13=>?_)
 simp only [qa,qxr,qf,qe,qn,qb,Nat.reduceAdd,Nat.zero_add,Nat.add_zero,qq,ql,B0,reduceIte,reduceEqDiff]
 refine qi (v:=lst qg a_0.Brokers) rfl ?_
 obtain ⟨v15,hx16,hF17⟩:=qm hF
 simp only [zg,B0,reduceIte,reduceEqDiff]
 refine qbp rfl hS13 (qk zh ze) (qjo (fun b hb=>decide_eq_true hb) k a_0.Brokers v15 hx16) ?_
 rintro v18 h22 ⟨_,c19,rfl,hv20,hS23⟩
 refine ⟨_,qh1 (SlF.free1 hv20),hS23,(js (SlF.pf hv20 (fun _=>rfl)) k9),fun h24 hS25=>?_⟩
 have hS26:Sep h24 (geL h.length) (c19++([Blk1 b11 [.nil,.nil,.int .i64 0] 29]++([Blk1 b5 [.nil,.nil,.int .i64 0] 29]++([])))):=by simpa only [List.append_assoc,
   List.nil_append] using hS25
 simp only [qn,qb,Nat.reduceAdd,Nat.zero_add,Nat.add_zero,zb,zm,B0,reduceIte,reduceEqDiff]
 refine zk (us:=[v18]) (kf (SlF.one hv20)) (cs':=[v18,.nil,.int .i64 0]) (Sep.m1 hS26) hW rfl (qv (SlF.one hv20) zx) (nle rfl) rfl (fun h27 hS28=>?_)
 simp only [qa,qv8,qf,qe,qn,qb,Nat.reduceAdd,Nat.zero_add,Nat.add_zero,qq,ql,B0,reduceIte,reduceEqDiff]
 refine qi (v:=lst qd a_0.Parts) rfl ?_
 obtain ⟨v29,hx30,hF31⟩:=qm hF17
 simp only [zg,B0,reduceIte,reduceEqDiff]
 refine qbp rfl hS28 (qk zh ze) (qhr (fun b hb=>decide_eq_true hb) k a_0.Parts v29 hx30) ?_
 rintro v32 h36 ⟨_,c33,rfl,hv34,hS37⟩
 refine ⟨_,qh1 (SlN.free1 hv34),hS37,(js (SlN.pf hv34 Partition.RO) k9),fun h38 hS39=>?_⟩
 have hS40:Sep h38 (geL h.length) (c33++([Blk1 b11 [v18,.nil,.int .i64 0] 29]++(c19++([Blk1 b5 [.nil,.nil,
   .int .i64 0] 29]++([]))))):=by simpa only [List.append_assoc,List.nil_append] using hS39
 simp only [qn,qb,Nat.reduceAdd,Nat.zero_add,Nat.add_zero,zb,zm,B0,reduceIte,reduceEqDiff]
 refine zk (us:=[v32]) (kf (SlN.one hv34)) (cs':=[v18,v32,.int .i64 0]) (Sep.m1 hS40) hW rfl (qv (SlN.one hv34) zx) (nle rfl) rfl (fun h41 hS42=>?_)
 simp only [qa,qyn,qf,qe,qn,qb,Nat.reduceAdd,Nat.zero_add,Nat.add_zero,qq,ql,B0,reduceIte,reduceEqDiff]
 refine qi (v := .int .i64 a_0.Next) rfl ?_
 simp only [qn,qb,Nat.reduceAdd,Nat.zero_add,Nat.add_zero,zb,zm,B0,reduceIte,reduceEqDiff]
 refine zk (us:=[.int .i64 a_0.Next]) rfl (cs':=[v18,v32,.int .i64 a_0.Next]) hS42 hW rfl rfl (nle rfl) rfl (fun h43 hS44=>?_)
 simp only [qa,qf,qe,ql,B0,reduceIte,reduceEqDiff]
 refine qi (v := .agg [v18,v32,.int .i64 a_0.Next]) ((jf (Sep.bk _ _ _ hS44)).trans rfl) ?_
 simp only [zm,B0,reduceIte,reduceEqDiff]
 refine zk (us:=[v18,v32,.int .i64 a_0.Next]) rfl (cs':=[v18,v32,
   .int .i64 a_0.Next]) (Sep.m3 hS44) hW rfl (qv (SlF.one hv20) (qv (SlN.one hv34) (qv rfl zx))) (nle rfl) rfl (fun h45 hS46=>?_)
 simp only [qa,qx,B0,reduceIte,reduceEqDiff]
 have he:=qj hF31
 subst he
 refine uw (bb:=b5) (oo:=0) (v := .agg [v18,v32,.int .i64 a_0.Next]) (by simp only [B0,reduceIte,reduceEqDiff]) ((jf (Sep.bk _ _ _ hS46)).trans rfl) ?_
 exact ⟨v18,c19,v32,c33,by first | trivial | rfl,hv20,hv34,(Sep.m1 (Sep.dc ((Sep.dc (hS46)))))⟩
theorem qbm {W:Nat→Bool}{h:Heap} (hW:∀ b,
  (geL h.length) b→W b=true) (k:Nat) (a_0:Command) (r:Command) (hF:y2 k a_0=some r) : Ret E W 42 [.agg [.int .i64 a_0.Kind,.int .i64 a_0.Broker,
  .int .i64 a_0.Epoch,.int .i64 a_0.Part,.int .i64 a_0.Stamp,lst cI a_0.InStep]] h (fun v h'=>∃ rv0_5 rc0_5,v = .agg [.int .i64 r.Kind,.int .i64 r.Broker,
  .int .i64 r.Epoch,.int .i64 r.Part,.int .i64 r.Stamp,rv0_5]∧SlF cI 1 3 rv0_5 r.InStep rc0_5∧Sep h' (geL h.length) (rc0_5++([]))):=by
 refine Ret.of (fn:=x42) rfl (Run.of ?_)
 unfold y2 at hF
 have zf0:zd [.agg [.int .i64 a_0.Kind,.int .i64 a_0.Broker,.int .i64 a_0.Epoch,.int .i64 a_0.Part,.int .i64 a_0.Stamp,lst cI a_0.InStep]] 0 = .agg [.int .i64 a_0.Kind,
   .int .i64 a_0.Broker,.int .i64 a_0.Epoch,.int .i64 a_0.Part,.int .i64 a_0.Stamp,lst cI a_0.InStep]:=rfl
 generalize zd [.agg [.int .i64 a_0.Kind,.int .i64 a_0.Broker,.int .i64 a_0.Epoch,.int .i64 a_0.Part,.int .i64 a_0.Stamp,lst cI a_0.InStep]]=fr0 at zf0 ⊢
 have hS:Sep h (geL h.length) []:=Sep.nil h
 simp only [x42,qf,qe,ja,zf0,B0,reduceIte,reduceEqDiff]
 refine z0 (cs:=[.int .i64 a_0.Kind,.int .i64 a_0.Broker,.int .i64 a_0.Epoch,.int .i64 a_0.Part,.int .i64 a_0.Stamp,
   lst cI a_0.InStep]) hS rfl rfl rfl (fun b1 h2 hS3=>?_)
 simp only [j6,B0,reduceIte,reduceEqDiff]
 refine jg hS3 (fun b5 h6 hS7=>?_)
 simp only [qa,B0,reduceIte,reduceEqDiff]
 refine zn (Sep.m1 hS7) hW (by simp only [B0,reduceIte,reduceEqDiff]) (fun h9 hS10=>?_)
 simp only [zo,qx9,qf,qe,j6,B0,reduceIte,reduceEqDiff]
 refine jg hS10 (fun b11 h12 hS13=>?_)
 simp only [qa,qw2,qf,qe,qn,qb,Nat.reduceAdd,Nat.zero_add,Nat.add_zero,qq,ql,B0,reduceIte,reduceEqDiff]
 refine qi (v := .int .i64 a_0.Kind) rfl ?_
 simp only [qn,qb,Nat.reduceAdd,Nat.zero_add,Nat.add_zero,zb,zm,B0,reduceIte,reduceEqDiff]
 refine zk (us:=[.int .i64 a_0.Kind]) rfl (cs':=[.int .i64 a_0.Kind,.int .i64 0,.int .i64 0,.int .i64 0,.int .i64 0,
   .nil]) hS13 hW rfl rfl (nle rfl) rfl (fun h15 hS16=>?_)
 simp only [qa,q0t,qf,qe,qn,qb,Nat.reduceAdd,Nat.zero_add,Nat.add_zero,qq,ql,B0,reduceIte,reduceEqDiff]
 refine qi (v := .int .i64 a_0.Broker) rfl ?_
 simp only [qn,qb,Nat.reduceAdd,Nat.zero_add,Nat.add_zero,zb,zm,B0,reduceIte,reduceEqDiff]
 refine zk (us:=[.int .i64 a_0.Broker]) rfl (cs':=[.int .i64 a_0.Kind,.int .i64 a_0.Broker,.int .i64 0,.int .i64 0,.int .i64 0,
   .nil]) hS16 hW rfl rfl (nle rfl) rfl (fun h17 hS18=>?_)
 simp only [qa,qy6,qf,qe,qn,qb,Nat.reduceAdd,Nat.zero_add,Nat.add_zero,qq,ql,B0,reduceIte,reduceEqDiff]
 refine qi (v := .int .i64 a_0.Epoch) rfl ?_
 simp only [qn,qb,Nat.reduceAdd,Nat.zero_add,Nat.add_zero,zb,zm,B0,reduceIte,reduceEqDiff]
 refine zk (us:=[.int .i64 a_0.Epoch]) rfl (cs':=[.int .i64 a_0.Kind,.int .i64 a_0.Broker,.int .i64 a_0.Epoch,.int .i64 0,.int .i64 0,
   .nil]) hS18 hW rfl rfl (nle rfl) rfl (fun h19 hS20=>?_)
 simp only [qa,qwg,qf,qe,qn,qb,Nat.reduceAdd,Nat.zero_add,Nat.add_zero,qq,ql,B0,reduceIte,reduceEqDiff]
 refine qi (v := .int .i64 a_0.Part) rfl ?_
 simp only [qn,qb,Nat.reduceAdd,Nat.zero_add,Nat.add_zero,zb,zm,B0,reduceIte,reduceEqDiff]
 refine zk (us:=[.int .i64 a_0.Part]) rfl (cs':=[.int .i64 a_0.Kind,.int .i64 a_0.Broker,.int .i64 a_0.Epoch,.int .i64 a_0.Part,.int .i64 0,
   .nil]) hS20 hW rfl rfl (nle rfl) rfl (fun h21 hS22=>?_)
 simp only [qa,qv2,qf,qe,qn,qb,Nat.reduceAdd,Nat.zero_add,Nat.add_zero,qq,ql,B0,reduceIte,reduceEqDiff]
 refine qi (v := .int .i64 a_0.Stamp) rfl ?_
 simp only [qn,qb,Nat.reduceAdd,Nat.zero_add,Nat.add_zero,zb,zm,B0,reduceIte,reduceEqDiff]
 refine zk (us:=[.int .i64 a_0.Stamp]) rfl (cs':=[.int .i64 a_0.Kind,.int .i64 a_0.Broker,.int .i64 a_0.Epoch,.int .i64 a_0.Part,.int .i64 a_0.Stamp,
   .nil]) hS22 hW rfl rfl (nle rfl) rfl (fun h23 hS24=>?_)
 simp only [qa,q2k,qf,qe,qn,qb,Nat.reduceAdd,Nat.zero_add,Nat.add_zero,qq,ql,B0,reduceIte,reduceEqDiff]
 refine qi (v:=lst cI a_0.InStep) rfl ?_
 obtain ⟨v25,hx26,hF27⟩:=qm hF
 simp only [zg,B0,reduceIte,reduceEqDiff]
 refine qbp rfl hS24 (qk zh ze) (qe4 (fun b hb=>decide_eq_true hb) k a_0.InStep v25 hx26) ?_
 rintro v28 h32 ⟨_,c29,rfl,hv30,hS33⟩
 refine ⟨_,qh1 (SlF.free1 hv30),hS33,(js (SlF.pf hv30 (fun _=>rfl)) k9),fun h34 hS35=>?_⟩
 have hS36:Sep h34 (geL h.length) (c29++([Blk1 b11 [.int .i64 a_0.Kind,.int .i64 a_0.Broker,.int .i64 a_0.Epoch,.int .i64 a_0.Part,.int .i64 a_0.Stamp,
   .nil] 44]++([Blk1 b5 [.int .i64 0,.int .i64 0,.int .i64 0,.int .i64 0,.int .i64 0,.nil] 44]++([])))):=by simpa only [List.append_assoc,List.nil_append] using hS35
 simp only [qn,qb,Nat.reduceAdd,Nat.zero_add,Nat.add_zero,zb,zm,B0,reduceIte,reduceEqDiff]
 refine zk (us:=[v28]) (kf (SlF.one hv30)) (cs':=[.int .i64 a_0.Kind,.int .i64 a_0.Broker,.int .i64 a_0.Epoch,.int .i64 a_0.Part,.int .i64 a_0.Stamp,
   v28]) (Sep.m1 hS36) hW rfl (qv (SlF.one hv30) zx) (nle rfl) rfl (fun h37 hS38=>?_)
 simp only [qa,qf,qe,ql,B0,reduceIte,reduceEqDiff]
 refine qi (v := .agg [.int .i64 a_0.Kind,.int .i64 a_0.Broker,.int .i64 a_0.Epoch,.int .i64 a_0.Part,.int .i64 a_0.Stamp,
   v28]) ((jf (Sep.bk _ _ _ hS38)).trans rfl) ?_
 simp only [zm,B0,reduceIte,reduceEqDiff]
 refine zk (us:=[.int .i64 a_0.Kind,.int .i64 a_0.Broker,.int .i64 a_0.Epoch,.int .i64 a_0.Part,.int .i64 a_0.Stamp,v28]) rfl (cs':=[.int .i64 a_0.Kind,
   .int .i64 a_0.Broker,.int .i64 a_0.Epoch,.int .i64 a_0.Part,.int .i64 a_0.Stamp,
   v28]) (Sep.m2 hS38) hW rfl (qv rfl (qv rfl (qv rfl (qv rfl (qv rfl (qv (SlF.one hv30) zx)))))) (nle rfl) rfl (fun h39 hS40=>?_)
 simp only [qa,qx,B0,reduceIte,reduceEqDiff]
 have he:=qj hF27
 subst he
 refine uw (bb:=b5) (oo:=0) (v := .agg [.int .i64 a_0.Kind,.int .i64 a_0.Broker,.int .i64 a_0.Epoch,.int .i64 a_0.Part,.int .i64 a_0.Stamp,
   v28]) (by simp only [B0,reduceIte,reduceEqDiff]) ((jf (Sep.bk _ _ _ hS40)).trans rfl) ?_
 exact ⟨v28,c29,by first | trivial | rfl,hv30,(Sep.dc ((Sep.dc (hS40))))⟩
theorem qjn {W:Nat→Bool}{h:Heap} (hW:∀ b,
  (geL h.length) b→W b=true) (k:Nat) (a_0:Command) (b_1:Command) (r:Bool) (hF:qa4 k a_0 b_1=some r) : Ret E W 43 [.agg [.int .i64 a_0.Kind,
  .int .i64 a_0.Broker,.int .i64 a_0.Epoch,.int .i64 a_0.Part,.int .i64 a_0.Stamp,lst cI a_0.InStep],.agg [.int .i64 b_1.Kind,.int .i64 b_1.Broker,.int .i64 b_1.Epoch,
  .int .i64 b_1.Part,.int .i64 b_1.Stamp,lst cI b_1.InStep]] h (fun v h'=>cut h.length h' E.sz false 9 v=some (.bool r)):=by
 refine Ret.of (fn:=x43) rfl (Run.of ?_)
 unfold qa4 at hF
 have zf0:zd [.agg [.int .i64 a_0.Kind,.int .i64 a_0.Broker,.int .i64 a_0.Epoch,.int .i64 a_0.Part,.int .i64 a_0.Stamp,lst cI a_0.InStep],.agg [.int .i64 b_1.Kind,
   .int .i64 b_1.Broker,.int .i64 b_1.Epoch,.int .i64 b_1.Part,.int .i64 b_1.Stamp,lst cI b_1.InStep]] 0 = .agg [.int .i64 a_0.Kind,.int .i64 a_0.Broker,
   .int .i64 a_0.Epoch,.int .i64 a_0.Part,.int .i64 a_0.Stamp,lst cI a_0.InStep]:=rfl
 have zf1:zd [.agg [.int .i64 a_0.Kind,.int .i64 a_0.Broker,.int .i64 a_0.Epoch,.int .i64 a_0.Part,.int .i64 a_0.Stamp,lst cI a_0.InStep],.agg [.int .i64 b_1.Kind,
   .int .i64 b_1.Broker,.int .i64 b_1.Epoch,.int .i64 b_1.Part,.int .i64 b_1.Stamp,lst cI b_1.InStep]] 1 = .agg [.int .i64 b_1.Kind,.int .i64 b_1.Broker,
   .int .i64 b_1.Epoch,.int .i64 b_1.Part,.int .i64 b_1.Stamp,lst cI b_1.InStep]:=rfl
 generalize zd [.agg [.int .i64 a_0.Kind,.int .i64 a_0.Broker,.int .i64 a_0.Epoch,.int .i64 a_0.Part,.int .i64 a_0.Stamp,lst cI a_0.InStep],.agg [.int .i64 b_1.Kind,
   .int .i64 b_1.Broker,.int .i64 b_1.Epoch,.int .i64 b_1.Part,.int .i64 b_1.Stamp,lst cI b_1.InStep]]=fr0 at zf0 zf1 ⊢
 have hS:Sep h (geL h.length) []:=Sep.nil h
 simp only [x43,qf,qe,ja,zf0,B0,reduceIte,reduceEqDiff]
 refine z0 (cs:=[.int .i64 a_0.Kind,.int .i64 a_0.Broker,.int .i64 a_0.Epoch,.int .i64 a_0.Part,.int .i64 a_0.Stamp,
   lst cI a_0.InStep]) hS rfl rfl rfl (fun b1 h2 hS3=>?_)
 simp only [ja,zf1,B0,reduceIte,reduceEqDiff]
 refine z0 (cs:=[.int .i64 b_1.Kind,.int .i64 b_1.Broker,.int .i64 b_1.Epoch,.int .i64 b_1.Part,.int .i64 b_1.Stamp,
   lst cI b_1.InStep]) hS3 rfl rfl rfl (fun b5 h6 hS7=>?_)
 simp only [qh,qa,B0,reduceIte,reduceEqDiff]
 refine zn (Sep.m1 hS7) hW (by simp only [B0,reduceIte,reduceEqDiff]) (fun h9 hS10=>?_)
 refine zn hS10 hW (by simp only [B0,reduceIte,reduceEqDiff]) (fun h11 hS12=>?_)
 simp only [zo,qyt,qf,qe,qn,qb,Nat.reduceAdd,Nat.zero_add,Nat.add_zero,qq,ql,B0,reduceIte,reduceEqDiff]
 refine qi (v := .int .i64 a_0.Kind) rfl ?_
 simp only [qn,qb,Nat.reduceAdd,Nat.zero_add,Nat.add_zero,qq,ql,B0,reduceIte,reduceEqDiff]
 refine qi (v := .int .i64 b_1.Kind) rfl ?_
 simp only [qs,qb,kh,qa,qy,B0,reduceIte,reduceEqDiff]
 refine qu (t:=(decide (a_0.Kind≠b_1.Kind))) (fun hc13=>?_) (fun hc13=>?_)
 ·rw [iteT hc13] at hF
  simp only [qf,qe,qh,qa,qx,B0,reduceIte,reduceEqDiff]
  have he:=qj hF
  subst he
  simp only [qw,B0,reduceIte,reduceEqDiff]
  exact rfl
 rw [iteF hc13] at hF
 simp only [za,qza,qf,qe,qn,qb,Nat.reduceAdd,Nat.zero_add,Nat.add_zero,qq,ql,B0,reduceIte,reduceEqDiff]
 refine qi (v := .int .i64 a_0.Broker) rfl ?_
 simp only [qn,qb,Nat.reduceAdd,Nat.zero_add,Nat.add_zero,qq,ql,B0,reduceIte,reduceEqDiff]
 refine qi (v := .int .i64 b_1.Broker) rfl ?_
 simp only [qs,qb,kh,qa,qy,B0,reduceIte,reduceEqDiff]
 refine qu (t:=(decide (a_0.Broker≠b_1.Broker))) (fun hc14=>?_) (fun hc14=>?_)
 ·rw [iteT hc14] at hF
  simp only [qf,qe,qh,qa,qx,B0,reduceIte,reduceEqDiff]
  have he:=qj hF
  subst he
  simp only [qw,B0,reduceIte,reduceEqDiff]
  exact rfl
 rw [iteF hc14] at hF
 simp only [za,q26,qf,qe,qn,qb,Nat.reduceAdd,Nat.zero_add,Nat.add_zero,qq,ql,B0,reduceIte,reduceEqDiff]
 refine qi (v := .int .i64 a_0.Epoch) rfl ?_
 simp only [qn,qb,Nat.reduceAdd,Nat.zero_add,Nat.add_zero,qq,ql,B0,reduceIte,reduceEqDiff]
 refine qi (v := .int .i64 b_1.Epoch) rfl ?_
 simp only [qs,qb,kh,qa,qy,B0,reduceIte,reduceEqDiff]
 refine qu (t:=(decide (a_0.Epoch≠b_1.Epoch))) (fun hc15=>?_) (fun hc15=>?_)
 ·rw [iteT hc15] at hF
  simp only [qf,qe,qh,qa,qx,B0,reduceIte,reduceEqDiff]
  have he:=qj hF
  subst he
  simp only [qw,B0,reduceIte,reduceEqDiff]
  exact rfl
 rw [iteF hc15] at hF
 simp only [za,q2v,qf,qe,qn,qb,Nat.reduceAdd,Nat.zero_add,Nat.add_zero,qq,ql,B0,reduceIte,reduceEqDiff]
 refine qi (v := .int .i64 a_0.Part) rfl ?_
 simp only [qn,qb,Nat.reduceAdd,Nat.zero_add,Nat.add_zero,qq,ql,B0,reduceIte,reduceEqDiff]
 refine qi (v := .int .i64 b_1.Part) rfl ?_
 simp only [qs,qb,kh,qa,qy,B0,reduceIte,reduceEqDiff]
 refine qu (t:=(decide (a_0.Part≠b_1.Part))) (fun hc16=>?_) (fun hc16=>?_)
 ·rw [iteT hc16] at hF
  simp only [qf,qe,qh,qa,qx,B0,reduceIte,reduceEqDiff]
  have he:=qj hF
  subst he
  simp only [qw,B0,reduceIte,reduceEqDiff]
  exact rfl
 rw [iteF hc16] at hF
 simp only [za,q1i,qf,qe,qn,qb,Nat.reduceAdd,Nat.zero_add,Nat.add_zero,qq,ql,B0,reduceIte,reduceEqDiff]
 refine qi (v := .int .i64 a_0.Stamp) rfl ?_
 simp only [qn,qb,Nat.reduceAdd,Nat.zero_add,Nat.add_zero,qq,ql,B0,reduceIte,reduceEqDiff]
 refine qi (v := .int .i64 b_1.Stamp) rfl ?_
 simp only [qs,qb,kh,qa,qy,B0,reduceIte,reduceEqDiff]
 refine qu (t:=(decide (a_0.Stamp≠b_1.Stamp))) (fun hc17=>?_) (fun hc17=>?_)
 ·rw [iteT hc17] at hF
  simp only [qf,qe,qh,qa,qx,B0,reduceIte,reduceEqDiff]
  have he:=qj hF
  subst he
  simp only [qw,B0,reduceIte,reduceEqDiff]
  exact rfl
 rw [iteF hc17] at hF
 simp only [za,qzz,qf,qe,qn,qb,Nat.reduceAdd,Nat.zero_add,Nat.add_zero,qq,ql,B0,reduceIte,reduceEqDiff]
 refine qi (v:=lst cI a_0.InStep) rfl ?_
 simp only [qn,qb,Nat.reduceAdd,Nat.zero_add,Nat.add_zero,qq,ql,B0,reduceIte,reduceEqDiff]
 refine qi (v:=lst cI b_1.InStep) rfl ?_
 obtain ⟨v18,hx19,hF20⟩:=qm hF
 simp only [zg,B0,reduceIte,reduceEqDiff]
 refine z5 rfl (qk zh (qk zh ze)) (qe2 (fun b hb=>decide_eq_true hb) k a_0.InStep b_1.InStep v18 hx19) ?_
 simp only [ji,qb,j5,qa,qy,B0,reduceIte,reduceEqDiff]
 refine qu (t:=(!v18)) (fun hc21=>?_) (fun hc21=>?_)
 ·rw [iteT hc21] at hF20
  simp only [qf,qe,qh,qa,qx,B0,reduceIte,reduceEqDiff]
  have he:=qj hF20
  subst he
  simp only [qw,B0,reduceIte,reduceEqDiff]
  exact rfl
 rw [iteF hc21] at hF20
 simp only [za,qf,qe,qh,qa,qx,B0,reduceIte,reduceEqDiff]
 have he:=qj hF20
 subst he
 simp only [qw,B0,reduceIte,reduceEqDiff]
 exact rfl
theorem qhu {W:Nat→Bool}{h:Heap}{lo:Nat→Prop}{S0:List Obj} (hW:∀ b,
  lo b→W b=true) (k:Nat) (a_0:Command) (pv0_5:XV) (pc0_5:List Obj) (ph0_5:SlF cI 1 3 pv0_5 a_0.InStep pc0_5) (k_1:Int) (r:Int × Command)
  (hF:uo k a_0 k_1=some r) (hS:Sep h lo (pc0_5++(S0))) : Ret E W 44 [.agg [.int .i64 a_0.Kind,.int .i64 a_0.Broker,.int .i64 a_0.Epoch,
  .int .i64 a_0.Part,.int .i64 a_0.Stamp,pv0_5],.int .i64 k_1] h (fun v h'=>∃ ic0_5,v = .int .i64 r.1∧SlF cI 1 3 pv0_5 r.2.InStep ic0_5∧Sep h' lo (ic0_5++(S0))):=by
 refine Ret.of (fn:=x44) rfl (Run.of ?_)
 unfold uo at hF
 have zf0:zd [.agg [.int .i64 a_0.Kind,.int .i64 a_0.Broker,.int .i64 a_0.Epoch,.int .i64 a_0.Part,.int .i64 a_0.Stamp,pv0_5],
   .int .i64 k_1] 0 = .agg [.int .i64 a_0.Kind,.int .i64 a_0.Broker,.int .i64 a_0.Epoch,.int .i64 a_0.Part,.int .i64 a_0.Stamp,pv0_5]:=rfl
 have zf1:zd [.agg [.int .i64 a_0.Kind,.int .i64 a_0.Broker,.int .i64 a_0.Epoch,.int .i64 a_0.Part,.int .i64 a_0.Stamp,pv0_5],.int .i64 k_1] 1 = .int .i64 k_1:=rfl
 generalize zd [.agg [.int .i64 a_0.Kind,.int .i64 a_0.Broker,.int .i64 a_0.Epoch,.int .i64 a_0.Part,.int .i64 a_0.Stamp,pv0_5],.int .i64 k_1]=fr0 at zf0 zf1 ⊢
 simp only [x44,qf,qe,ja,zf0,B0,reduceIte,reduceEqDiff]
 refine z0 (cs:=[.int .i64 a_0.Kind,.int .i64 a_0.Broker,.int .i64 a_0.Epoch,.int .i64 a_0.Part,.int .i64 a_0.Stamp,
   pv0_5]) hS rfl rfl (qv rfl (qv rfl (qv rfl (qv rfl (qv rfl (qv (SlF.one ph0_5) zx)))))) (fun b1 h2 hS3=>?_)
 simp only [qh,qa,B0,reduceIte,reduceEqDiff]
 refine zn hS3 hW (by simp only [B0,reduceIte,reduceEqDiff]) (fun h5 hS6=>?_)
 simp only [zo,q2p,qf,qe,qn,qb,Nat.reduceAdd,Nat.zero_add,Nat.add_zero,qq,ql,B0,reduceIte,reduceEqDiff]
 refine qi (v:=pv0_5) rfl ?_
 obtain ⟨v7,hx8,hF9⟩:=qm hF
 simp only [zf1,qh,zg,B0,reduceIte,reduceEqDiff]
 refine qau rfl (qdv hW k pv0_5 pc0_5 a_0.InStep ph0_5 k_1 v7 hx8 hS6) ?_
 rintro _ h12 ⟨c10,rfl,hv11,hS13⟩
 simp only [qh,qa,qf,qe,qx,B0,reduceIte,reduceEqDiff]
 have he:=qj hF9
 subst he
 simp only [qw,B0,reduceIte,reduceEqDiff]
 exact ⟨c10,by first | trivial | rfl,hv11,hS13⟩
end Go.Proofs.Ytjloihcijdcpeaa.X
namespace Go.Proofs.Ytjloihcijdcpeaa.X
open Go
open Nat (reduceEqDiff)
theorem qfy {W:Nat→Bool}{h:Heap} (hW:∀ b,
  (geL h.length) b→W b=true) (k:Nat) (v_0:Control) (v_1:Command) (r:Bool)
  (hF:y9 k v_0 v_1=some r) : Ret E W 6 [.agg [lst qg v_0.Brokers,lst qd v_0.Parts,.int .i64 v_0.Next],.agg [.int .i64 v_1.Kind,
  .int .i64 v_1.Broker,.int .i64 v_1.Epoch,.int .i64 v_1.Part,.int .i64 v_1.Stamp,lst cI v_1.InStep]] h (fun v h'=>cut h.length h' E.sz false 9 v=some (.bool r)):=by
 refine Ret.of (fn:=x6) rfl (Run.of ?_)
 unfold y9 at hF
 have zf0:zd [.agg [lst qg v_0.Brokers,lst qd v_0.Parts,.int .i64 v_0.Next],.agg [.int .i64 v_1.Kind,.int .i64 v_1.Broker,.int .i64 v_1.Epoch,
   .int .i64 v_1.Part,.int .i64 v_1.Stamp,lst cI v_1.InStep]] 0 = .agg [lst qg v_0.Brokers,lst qd v_0.Parts,.int .i64 v_0.Next]:=rfl
 have zf1:zd [.agg [lst qg v_0.Brokers,lst qd v_0.Parts,.int .i64 v_0.Next],.agg [.int .i64 v_1.Kind,.int .i64 v_1.Broker,.int .i64 v_1.Epoch,
   .int .i64 v_1.Part,.int .i64 v_1.Stamp,lst cI v_1.InStep]] 1 = .agg [.int .i64 v_1.Kind,.int .i64 v_1.Broker,.int .i64 v_1.Epoch,.int .i64 v_1.Part,
   .int .i64 v_1.Stamp,lst cI v_1.InStep]:=rfl
 generalize zd [.agg [lst qg v_0.Brokers,lst qd v_0.Parts,.int .i64 v_0.Next],.agg [.int .i64 v_1.Kind,.int .i64 v_1.Broker,.int .i64 v_1.Epoch,
   .int .i64 v_1.Part,.int .i64 v_1.Stamp,lst cI v_1.InStep]]=fr0 at zf0 zf1 ⊢
 have hS:Sep h (geL h.length) []:=Sep.nil h
 simp only [x6,qf,qe,ja,zf0,B0,reduceIte,reduceEqDiff]
 refine z0 (cs:=[lst qg v_0.Brokers,lst qd v_0.Parts,.int .i64 v_0.Next]) hS rfl rfl rfl (fun b1 h2 hS3=>?_)
 simp only [ja,zf1,B0,reduceIte,reduceEqDiff]
 refine z0 (cs:=[.int .i64 v_1.Kind,.int .i64 v_1.Broker,.int .i64 v_1.Epoch,.int .i64 v_1.Part,.int .i64 v_1.Stamp,
   lst cI v_1.InStep]) hS3 rfl rfl rfl (fun b5 h6 hS7=>?_)
 simp only [qh,qa,B0,reduceIte,reduceEqDiff]
 refine zn (Sep.m1 hS7) hW (by simp only [B0,reduceIte,reduceEqDiff]) (fun h9 hS10=>?_)
 refine zn hS10 hW (by simp only [B0,reduceIte,reduceEqDiff]) (fun h11 hS12=>?_)
 simp only [zo,q0b,qf,qe,qh,qa,qyr,ql,B0,reduceIte,reduceEqDiff]
 refine qi (v := .agg [lst qg v_0.Brokers,lst qd v_0.Parts,.int .i64 v_0.Next]) rfl ?_
 obtain ⟨v13,hx14,hF15⟩:=qm hF
 simp only [qh,zg,B0,reduceIte,reduceEqDiff]
 refine z5 rfl (qk (zv (qk zh (qk zh (qk qp ze)))) (qk qp ze)) (qjd
   (fun b hb=>decide_eq_true hb) k v_0 1048576 v13 hx14) ?_
 simp only [qh,qa,qxe,qf,qe,qs,qb,k8,qy,B0,reduceIte,reduceEqDiff]
 refine qu (t:=(decide (v13<0))) (fun hc16=>?_) (fun hc16=>?_)
 ·rw [iteT hc16] at hF15
  simp only [qf,qe,qh,qa,qx,B0,reduceIte,reduceEqDiff]
  have he:=qj hF15
  subst he
  simp only [qw,B0,reduceIte,reduceEqDiff]
  exact rfl
 rw [iteF hc16] at hF15
 simp only [za,q05,qf,qe,ql,B0,reduceIte,reduceEqDiff]
 refine qi (v := .agg [.int .i64 v_1.Kind,.int .i64 v_1.Broker,.int .i64 v_1.Epoch,.int .i64 v_1.Part,.int .i64 v_1.Stamp,lst cI v_1.InStep]) rfl ?_
 obtain ⟨v17,hx18,hF19⟩:=qm hF15
 simp only [qh,zg,B0,reduceIte,reduceEqDiff]
 refine z5 rfl (qk (zv (qk qp (qk qp (qk qp (qk qp (qk qp (qk zh ze))))))) (qk qp ze))
   (qjb (fun b hb=>decide_eq_true hb) v_1 v13 v17 hx18) ?_
 simp only [qh,qa,q1v,qf,qe,qs,qb,k8,qy,B0,reduceIte,reduceEqDiff]
 refine qu (t:=(decide (v17<0))) (fun hc20=>?_) (fun hc20=>?_)
 ·rw [iteT hc20] at hF19
  simp only [qf,qe,qh,qa,qx,B0,reduceIte,reduceEqDiff]
  have he:=qj hF19
  subst he
  simp only [qw,B0,reduceIte,reduceEqDiff]
  exact rfl
 rw [iteF hc20] at hF19
 simp only [za,q2n,qf,jq,qif,B0,reduceIte,reduceEqDiff]
 refine qdk hS12 (fun b21 h22 hS23=>?_)
 simp only [z8,B0,reduceIte,reduceEqDiff]
 refine zf (v := .agg [lst qg v_0.Brokers,lst qd v_0.Parts,.int .i64 v_0.Next]) rfl ?_
 obtain ⟨v25,hx26,hF27⟩:=qm hF19
 simp only [qc0,B0,reduceIte,reduceEqDiff]
 refine qh0 rfl hS23 (qk (zv (qk zh (qk zh (qk qp ze)))) ze) (qbj (fun b hb=>decide_eq_true hb) k v_0 v25 hx26) ?_
 rintro _ h36 ⟨v28,c29,v32,c33,rfl,hv30,hv34,hS37⟩
 refine ⟨_,uz (qv (SlF.free1 hv30) (qv (SlN.free1 hv34) (qv rfl zx))),hS37,(js (SlF.pf hv30 (fun _=>rfl)) (js (SlN.pf hv34 Partition.RO) k9)),
   fun h38 hS39=>?_⟩
 have hS40:Sep h38 (geL h.length) (c29++(c33++([Blk1 b21 [.nil,.nil,.int .i64 0] 29]++([])))):=by simpa only [List.append_assoc,List.nil_append] using hS39
 simp only [qb2,qa2,B0,reduceIte,reduceEqDiff]
 refine zf (v := .agg [.int .i64 v_1.Kind,.int .i64 v_1.Broker,.int .i64 v_1.Epoch,.int .i64 v_1.Part,.int .i64 v_1.Stamp,lst cI v_1.InStep]) rfl ?_
 obtain ⟨v41,hx42,hF43⟩:=qm hF27
 simp only [kq,B0,reduceIte,reduceEqDiff]
 refine qke rfl hS40 (qk (zv (qk qp (qk qp (qk qp (qk qp (qk qp (qk zh ze))))))) ze) (qbm
   (fun b hb=>decide_eq_true hb) k v_1 v41 hx42) ?_
 rintro _ h48 ⟨v44,c45,rfl,hv46,hS49⟩
 refine ⟨_,uz (qv rfl (qv rfl (qv rfl (qv rfl (qv rfl (qv (SlF.free1 hv46) zx)))))),hS49,(js (SlF.pf hv46 (fun _=>rfl)) k9),
   fun h50 hS51=>?_⟩
 have hS52:Sep h50 (geL h.length) (c45++(c29++(c33++([Blk1 b21 [.nil,.nil,.int .i64 0] 29]++([]))))):=by simpa only [List.append_assoc,List.nil_append] using hS51
 obtain ⟨v53,hx54,hF55⟩:=qm hF43
 simp only [kq,B0,reduceIte,reduceEqDiff]
 refine qke rfl hS52 (qk (zv (qk (SlF.snap hv30 (Sep.m1 hS52) rfl (fun _=>rfl) (fun _=>rfl)) (qk (SlN.snap hv34 _ (Sep.m2 hS52) rfl Partition.RO)
   (qk qp ze)))) (qk (zv (qk qp (qk qp (qk qp (qk qp (qk qp (qk (SlF.snap hv46 hS52 rfl (fun _=>rfl)
   (fun _=>rfl)) ze))))))) ze)) (qje (fun b hb=>decide_eq_true hb) v25 v41 v53 hx54) ?_
 rintro _ h64 ⟨v56,c57,v60,c61,rfl,hv58,hv62,hS65⟩
 refine ⟨_,qkc (qv (qit (qv (SlF.free1 hv58) (qv (SlN.free1 hv62) (qv rfl zx)))) (qv rfl (qv rfl zx))),hS65,
   (js (SlF.pf hv58 (fun _=>rfl)) (js (SlN.pf hv62 Partition.RO) k9)),fun h66 hS67=>?_⟩
 have hS68:Sep h66 (geL h.length) (c57++(c61++(c45++(c29++(c33++([Blk1 b21 [.nil,.nil,.int .i64 0] 29]++([]))))))):=by simpa only [List.append_assoc,
   List.nil_append] using hS67
 simp only [jy,qz,qme,qib,qmv,qh4,qmt,qcp,B0,reduceIte,reduceEqDiff]
 refine qbn (us:=[v56,v60,.int .i64 v53.1.Next]) rfl (cs':=[v56,v60,
   .int .i64 v53.1.Next]) (Sep.m5 hS68) hW rfl (qv (SlF.one hv58) (qv (SlN.one hv62) (qv rfl zx))) (nle rfl) rfl (fun h69 hS70=>?_)
 simp only [jy,qz,zp,B0,reduceIte,reduceEqDiff]
 refine zn hS70 hW (by simp only [B0,reduceIte,reduceEqDiff]) (fun h71 hS72=>?_)
 simp only [zo,qx6,qf,qe,ql,B0,reduceIte,reduceEqDiff]
 refine qi (v := .agg [lst qg v_0.Brokers,lst qd v_0.Parts,.int .i64 v_0.Next]) rfl ?_
 obtain ⟨v73,hx74,hF75⟩:=qm hF55
 simp only [zg,B0,reduceIte,reduceEqDiff]
 refine qbp rfl hS72 (qk (zv (qk zh (qk zh (qk qp ze)))) ze) (qbj (fun b hb=>decide_eq_true hb) k v_0 v73 hx74) ?_
 rintro _ h84 ⟨v76,c77,v80,c81,rfl,hv78,hv82,hS85⟩
 refine ⟨_,uz (qv (SlF.free1 hv78) (qv (SlN.free1 hv82) (qv rfl zx))),hS85,(js (SlF.pf hv78 (fun _=>rfl)) (js (SlN.pf hv82 Partition.RO) k9)),
   fun h86 hS87=>?_⟩
 have hS88:Sep h86 (geL h.length) (c77++(c81++(c57++(c61++(c45++(c29++(c33++([])))))))):=by simpa only [List.append_assoc,List.nil_append] using hS87
 simp only [j6,B0,reduceIte,reduceEqDiff]
 refine jg hS88 (fun b89 h90 hS91=>?_)
 simp only [zm,B0,reduceIte,reduceEqDiff]
 refine zk (us:=[v76,v80,.int .i64 v73.Next]) rfl (cs':=[v76,v80,
   .int .i64 v73.Next]) hS91 hW rfl (qv (SlF.one hv78) (qv (SlN.one hv82) (qv rfl zx))) (nle rfl) rfl (fun h93 hS94=>?_)
 simp only [qa,B0,reduceIte,reduceEqDiff]
 refine zn hS94 hW (by simp only [B0,reduceIte,reduceEqDiff]) (fun h95 hS96=>?_)
 simp only [zo,qw9,qf,qe,ql,B0,reduceIte,reduceEqDiff]
 refine qi (v := .agg [.int .i64 v_1.Kind,.int .i64 v_1.Broker,.int .i64 v_1.Epoch,.int .i64 v_1.Part,.int .i64 v_1.Stamp,lst cI v_1.InStep]) rfl ?_
 obtain ⟨v97,hx98,hF99⟩:=qm hF75
 simp only [zg,B0,reduceIte,reduceEqDiff]
 refine qbp rfl hS96 (qk (zv (qk qp (qk qp (qk qp (qk qp (qk qp (qk zh ze))))))) ze) (qbm
   (fun b hb=>decide_eq_true hb) k v_1 v97 hx98) ?_
 rintro _ h104 ⟨v100,c101,rfl,hv102,hS105⟩
 refine ⟨_,uz (qv rfl (qv rfl (qv rfl (qv rfl (qv rfl (qv (SlF.free1 hv102) zx)))))),hS105,(js (SlF.pf hv102 (fun _=>rfl)) k9),
   fun h106 hS107=>?_⟩
 have hS108:Sep h106 (geL h.length) (c101++(c77++(c81++(c57++(c61++(c45++(c29++(c33++([]))))))))):=by simpa only [List.append_assoc,
   List.nil_append] using hS107
 simp only [j6,B0,reduceIte,reduceEqDiff]
 refine jg hS108 (fun b109 h110 hS111=>?_)
 simp only [zm,B0,reduceIte,reduceEqDiff]
 refine zk (us:=[.int .i64 v97.Kind,.int .i64 v97.Broker,.int .i64 v97.Epoch,.int .i64 v97.Part,.int .i64 v97.Stamp,v100]) rfl (cs':=[.int .i64 v97.Kind,
   .int .i64 v97.Broker,.int .i64 v97.Epoch,.int .i64 v97.Part,.int .i64 v97.Stamp,
   v100]) hS111 hW rfl (qv rfl (qv rfl (qv rfl (qv rfl (qv rfl (qv (SlF.one hv102) zx)))))) (nle rfl) rfl (fun h113 hS114=>?_)
 simp only [qa,B0,reduceIte,reduceEqDiff]
 refine zn hS114 hW (by simp only [B0,reduceIte,reduceEqDiff]) (fun h115 hS116=>?_)
 simp only [zo,qwz,qf,qe,ql,B0,reduceIte,reduceEqDiff]
 refine qi (v := .agg [v76,v80,.int .i64 v73.Next]) rfl ?_
 simp only [ql,B0,reduceIte,reduceEqDiff]
 refine qi (v := .agg [.int .i64 v97.Kind,.int .i64 v97.Broker,.int .i64 v97.Epoch,.int .i64 v97.Part,.int .i64 v97.Stamp,v100]) rfl ?_
 obtain ⟨v117,hx118,hF119⟩:=qm hF99
 simp only [zg,B0,reduceIte,reduceEqDiff]
 refine qbp rfl hS116 (qk (zv (qk (SlF.snap hv78 (Sep.m1 hS116) rfl (fun _=>rfl) (fun _=>rfl)) (qk (SlN.snap hv82 _ (Sep.m2 hS116) rfl Partition.RO)
   (qk qp ze)))) (qk (zv (qk qp (qk qp (qk qp (qk qp (qk qp (qk (SlF.snap hv102 hS116 rfl (fun _=>rfl)
   (fun _=>rfl)) ze))))))) ze)) (qfr (fun b hb=>decide_eq_true hb) v73 v97 v117 hx118) ?_
 rintro _ h128 ⟨v120,c121,v124,c125,rfl,hv122,hv126,hS129⟩
 refine ⟨_,qkc (qv (qit (qv (SlF.free1 hv122) (qv (SlN.free1 hv126) (qv rfl zx)))) (qv rfl (qv rfl zx))),hS129,
   (js (SlF.pf hv122 (fun _=>rfl)) (js (SlN.pf hv126 Partition.RO) k9)),fun h130 hS131=>?_⟩
 have hS132:Sep h130 (geL h.length) (c121++(c125++(c101++(c77++(c81++(c57++(c61++(c45++(c29++(c33++([]))))))))))):=by simpa only [List.append_assoc,
   List.nil_append] using hS131
 simp only [qh,qny,qb,qib,qh4,qmt,j6,B0,reduceIte,reduceEqDiff]
 refine jg hS132 (fun b133 h134 hS135=>?_)
 simp only [zm,B0,reduceIte,reduceEqDiff]
 refine zk (us:=[v120,v124,.int .i64 v117.1.Next]) rfl (cs':=[v120,v124,
   .int .i64 v117.1.Next]) hS135 hW rfl (qv (SlF.one hv122) (qv (SlN.one hv126) (qv rfl zx))) (nle rfl) rfl (fun h137 hS138=>?_)
 simp only [qh,qa,B0,reduceIte,reduceEqDiff]
 refine zn hS138 hW (by simp only [B0,reduceIte,reduceEqDiff]) (fun h139 hS140=>?_)
 simp only [zo,qxq,qf,qe,ql,B0,reduceIte,reduceEqDiff]
 refine qi (v := .agg [v120,v124,.int .i64 v117.1.Next]) rfl ?_
 simp only [ql,B0,reduceIte,reduceEqDiff]
 refine qi (v := .agg [v56,v60,.int .i64 v53.1.Next]) rfl ?_
 obtain ⟨v141,hx142,hF143⟩:=qm hF119
 simp only [zg,B0,reduceIte,reduceEqDiff]
 refine z5 rfl (qk (zv (qk (SlF.snap hv122 hS140 rfl (fun _=>rfl) (fun _=>rfl)) (qk (SlN.snap hv126 _ (Sep.m1 hS140) rfl Partition.RO)
   (qk qp ze)))) (qk (zv (qk (SlF.snap hv58 (Sep.m5 hS140) rfl (fun _=>rfl) (fun _=>rfl)) (qk (SlN.snap hv62 _ (Sep.m6 hS140) rfl Partition.RO)
   (qk qp ze)))) ze)) (qbl (fun b hb=>decide_eq_true hb) k v117.1 v53.1 v141 hx142) ?_
 simp only [ji,qb,j5,qh,B0,reduceIte,reduceEqDiff]
 refine zt 4 (fun fr' h'=>Sep h' (geL h.length) (c57++(c61++(c77++(c81++(c101++(c121++(c125++([]))))))))∧fr' 58 = .bool ((!v141)||(decide
   (v117.2.1≠v53.2.1)))∧fr' 2 = .ref [lst qg v_0.Brokers,lst qd v_0.Parts,.int .i64 v_0.Next] 0∧fr' 3 = .ref [.int .i64 v_1.Kind,
   .int .i64 v_1.Broker,.int .i64 v_1.Epoch,.int .i64 v_1.Part,.int .i64 v_1.Stamp,lst cI v_1.InStep] 0∧fr' 6 = .ref [v56,v60,
   .int .i64 v53.1.Next] 0∧fr' 7 = .int .i64 v53.2.1∧fr' 8 = .bool v53.2.2∧fr' 9 = .ref [v76,v80,.int .i64 v73.Next] 0∧fr' 10 = .ref [.int .i64 v97.Kind,
   .int .i64 v97.Broker,.int .i64 v97.Epoch,.int .i64 v97.Part,.int .i64 v97.Stamp,v100] 0∧fr' 11 = .ref [v120,v124,
   .int .i64 v117.1.Next] 0∧fr' 12 = .int .i64 v117.2.1∧fr' 13 = .bool v117.2.2) (fun Q144 hN145=>?_) ?_
 ·simp only [List.take_succ_cons,List.take_zero]
  simp only [qc (g:=54),B0,reduceIte,reduceEqDiff]
  refine q9 (t:=(!v141)) (fun hg146=>?_) (fun hg146=>?_)
  ·simp only [hg146,qc (g:=54),zu,qr,qb,zj,qa,qo,B0,reduceIte,reduceEqDiff]
   exact hN145 _ _ ⟨(Sep.m6 (Sep.m6 (Sep.m4 (Sep.m4 (Sep.m2 (Sep.m1 (Sep.m1 (Sep.dc (Sep.m7 (Sep.dc (Sep.m7 (Sep.dc (Sep.m7 hS140))))))))))))),
     by rw [orT hg146]; simp only [B0,reduceIte,reduceEqDiff],rfl,rfl,rfl,rfl,rfl,rfl,rfl,rfl,rfl,rfl⟩
  ·simp only [hg146,qc (g:=54),qt,qh,qs,qb,kh,qr,zi,qa,qo,B0,reduceIte,reduceEqDiff]
   exact hN145 _ _ ⟨(Sep.m6 (Sep.m6 (Sep.m4 (Sep.m4 (Sep.m2 (Sep.m1 (Sep.m1 (Sep.dc (Sep.m7 (Sep.dc (Sep.m7 (Sep.dc (Sep.m7 hS140))))))))))))),
     by rw [orF hg146]; simp only [B0,reduceIte,reduceEqDiff],rfl,rfl,rfl,rfl,rfl,rfl,rfl,rfl,rfl,rfl⟩
 rintro fr147 h159 ⟨hS160,f148,f149,f150,f151,f152,f153,f154,f155,f156,f157,f158⟩
 simp only [List.drop_succ_cons,List.drop_zero]
 simp only [f148,qh,B0,reduceIte,reduceEqDiff]
 refine zt 4 (fun fr' h'=>Sep h' (geL h.length) (c57++(c61++(c77++(c81++(c101++(c121++(c125++([]))))))))∧fr' 63 = .bool (((!v141)||(decide
   (v117.2.1≠v53.2.1)))||(!(v117.2.2 == v53.2.2)))∧fr' 2 = .ref [lst qg v_0.Brokers,lst qd v_0.Parts,
   .int .i64 v_0.Next] 0∧fr' 3 = .ref [.int .i64 v_1.Kind,.int .i64 v_1.Broker,.int .i64 v_1.Epoch,.int .i64 v_1.Part,.int .i64 v_1.Stamp,
   lst cI v_1.InStep] 0∧fr' 6 = .ref [v56,v60,.int .i64 v53.1.Next] 0∧fr' 7 = .int .i64 v53.2.1∧fr' 8 = .bool v53.2.2∧fr' 9 = .ref [v76,v80,
   .int .i64 v73.Next] 0∧fr' 10 = .ref [.int .i64 v97.Kind,.int .i64 v97.Broker,.int .i64 v97.Epoch,.int .i64 v97.Part,.int .i64 v97.Stamp,v100] 0∧fr' 11 = .ref [v120,
   v124,.int .i64 v117.1.Next] 0∧fr' 12 = .int .i64 v117.2.1∧fr' 13 = .bool v117.2.2) (fun Q161 hN162=>?_) ?_
 ·simp only [List.take_succ_cons,List.take_zero]
  simp only [qc (g:=59),B0,reduceIte,reduceEqDiff]
  refine q9 (t:=((!v141)||(decide (v117.2.1≠v53.2.1)))) (fun hg163=>?_) (fun hg163=>?_)
  ·simp only [hg163,qc (g:=59),zu,qr,qb,zj,qa,qo,B0,reduceIte,reduceEqDiff]
   exact hN162 _ _ ⟨(Sep.m6 (Sep.m6 (Sep.m6 (Sep.m6 (Sep.m6 (Sep.m6 (Sep.m6 hS160))))))),by rw [orT hg163]; simp only [B0,reduceIte,reduceEqDiff],f149,f150,f151,f152,
     f153,f154,f155,f156,f157,f158⟩
  ·simp only [hg163,qc (g:=59),qt,f158,qh,f153,qeg,qb,qfp,qr,zi,qa,qo,B0,reduceIte,reduceEqDiff]
   exact hN162 _ _ ⟨(Sep.m6 (Sep.m6 (Sep.m6 (Sep.m6 (Sep.m6 (Sep.m6 (Sep.m6 hS160))))))),by rw [orF hg163]; simp only [B0,reduceIte,reduceEqDiff],f149,f150,f151,f152,
     f153,f154,f155,f156,f157,f158⟩
 rintro fr164 h176 ⟨hS177,f165,f166,f167,f168,f169,f170,f171,f172,f173,f174,f175⟩
 simp only [List.drop_succ_cons,List.drop_zero]
 simp only [qa,f165,qy,B0,reduceIte,reduceEqDiff]
 refine qu (t:=(((!v141)||(decide (v117.2.1≠v53.2.1)))||(!(v117.2.2 == v53.2.2)))) (fun hc178=>?_) (fun hc178=>?_)
 ·rw [iteT hc178] at hF143
  simp only [qf,qe,qh,qa,qx,B0,reduceIte,reduceEqDiff]
  have he:=qj hF143
  subst he
  simp only [qw,B0,reduceIte,reduceEqDiff]
  exact rfl
 rw [iteF hc178] at hF143
 simp only [za,qzd,qf,jq,f171,qb2,qa2,B0,reduceIte,reduceEqDiff]
 refine zf (v := .agg [v76,v80,.int .i64 v73.Next]) rfl ?_
 simp only [f166,z8,B0,reduceIte,reduceEqDiff]
 refine zf (v := .agg [lst qg v_0.Brokers,lst qd v_0.Parts,.int .i64 v_0.Next]) rfl ?_
 obtain ⟨v179,hx180,hF181⟩:=qm hF143
 simp only [qc0,B0,reduceIte,reduceEqDiff]
 refine qh0 rfl hS177 (qk (zv (qk zh (qk zh (qk qp ze)))) ze) (qbj (fun b hb=>decide_eq_true hb) k v_0 v179 hx180) ?_
 rintro _ h190 ⟨v182,c183,v186,c187,rfl,hv184,hv188,hS191⟩
 refine ⟨_,uz (qv (SlF.free1 hv184) (qv (SlN.free1 hv188) (qv rfl zx))),hS191,
   (js (SlF.pf hv184 (fun _=>rfl)) (js (SlN.pf hv188 Partition.RO) k9)),fun h192 hS193=>?_⟩
 have hS194:Sep h192 (geL h.length) (c183++(c187++(c57++(c61++(c77++(c81++(c101++(c121++(c125++([])))))))))):=by simpa only [List.append_assoc,
   List.nil_append] using hS193
 obtain ⟨v195,hx196,hF197⟩:=qm hF181
 simp only [kq,B0,reduceIte,reduceEqDiff]
 refine qds rfl (qk (zv (qk (SlF.snap hv78 (Sep.m4 hS194) rfl (fun _=>rfl) (fun _=>rfl)) (qk (SlN.snap hv82 _ (Sep.m5 hS194) rfl Partition.RO)
   (qk qp ze)))) (qk (zv (qk (SlF.snap hv184 hS194 rfl (fun _=>rfl) (fun _=>rfl)) (qk (SlN.snap hv188 _ (Sep.m1 hS194) rfl Partition.RO)
   (qk qp ze)))) ze)) (qbl (fun b hb=>decide_eq_true hb) k v73 v179 v195 hx196) ?_
 simp only [qf1,qz,j5,zp,qy,B0,reduceIte,reduceEqDiff]
 refine qu (t:=(!v195)) (fun hc198=>?_) (fun hc198=>?_)
 ·rw [iteT hc198] at hF197
  simp only [qf,qe,qh,qa,qx,B0,reduceIte,reduceEqDiff]
  have he:=qj hF197
  subst he
  simp only [qw,B0,reduceIte,reduceEqDiff]
  exact rfl
 rw [iteF hc198] at hF197
 simp only [za,qzb,qf,jq,f172,qb2,qa2,B0,reduceIte,reduceEqDiff]
 refine zf (v := .agg [.int .i64 v97.Kind,.int .i64 v97.Broker,.int .i64 v97.Epoch,.int .i64 v97.Part,.int .i64 v97.Stamp,v100]) rfl ?_
 simp only [f167,z8,B0,reduceIte,reduceEqDiff]
 refine zf (v := .agg [.int .i64 v_1.Kind,.int .i64 v_1.Broker,.int .i64 v_1.Epoch,.int .i64 v_1.Part,.int .i64 v_1.Stamp,lst cI v_1.InStep]) rfl ?_
 obtain ⟨v199,hx200,hF201⟩:=qm hF197
 simp only [qc0,B0,reduceIte,reduceEqDiff]
 refine qh0 rfl hS194 (qk (zv (qk qp (qk qp (qk qp (qk qp (qk qp (qk zh ze))))))) ze) (qbm
   (fun b hb=>decide_eq_true hb) k v_1 v199 hx200) ?_
 rintro _ h206 ⟨v202,c203,rfl,hv204,hS207⟩
 refine ⟨_,uz (qv rfl (qv rfl (qv rfl (qv rfl (qv rfl (qv (SlF.free1 hv204) zx)))))),hS207,(js (SlF.pf hv204 (fun _=>rfl)) k9),
   fun h208 hS209=>?_⟩
 have hS210:Sep h208 (geL h.length) (c203++(c183++(c187++(c57++(c61++(c77++(c81++(c101++(c121++(c125++([]))))))))))):=by simpa only [List.append_assoc,
   List.nil_append] using hS209
 obtain ⟨v211,hx212,hF213⟩:=qm hF201
 simp only [kq,B0,reduceIte,reduceEqDiff]
 refine qds rfl (qk (zv (qk qp (qk qp (qk qp (qk qp (qk qp (qk (SlF.snap hv102 (Sep.m7 hS210) rfl (fun _=>rfl)
   (fun _=>rfl)) ze))))))) (qk (zv (qk qp (qk qp (qk qp (qk qp (qk qp (qk (SlF.snap hv204 hS210 rfl
   (fun _=>rfl) (fun _=>rfl)) ze))))))) ze)) (qjn (fun b hb=>decide_eq_true hb) k v97 v199 v211 hx212) ?_
 simp only [qf1,qz,j5,zp,qy,B0,reduceIte,reduceEqDiff]
 refine qu (t:=(!v211)) (fun hc214=>?_) (fun hc214=>?_)
 ·rw [iteT hc214] at hF213
  simp only [qf,qe,qh,qa,qx,B0,reduceIte,reduceEqDiff]
  have he:=qj hF213
  subst he
  simp only [qw,B0,reduceIte,reduceEqDiff]
  exact rfl
 rw [iteF hc214] at hF213
 simp only [za,q0s,qf,qe,qh,qa,q3q,f171,ql,B0,reduceIte,reduceEqDiff]
 refine qi (v := .agg [v76,v80,.int .i64 v73.Next]) rfl ?_
 obtain ⟨v215,hx216,hF217⟩:=qm hF213
 simp only [qh,zg,B0,reduceIte,reduceEqDiff]
 refine qau rfl (qer hW k v73 v76 c77 hv78 v80 c81 hv82 1 v215 hx216 (Sep.m6 (Sep.m6 hS210))) ?_
 rintro _ h222 ⟨c218,c220,rfl,hv219,hv221,hS223⟩
 simp only [qh,qa,qvz,qf,qe,f172,ql,B0,reduceIte,reduceEqDiff]
 refine qi (v := .agg [.int .i64 v97.Kind,.int .i64 v97.Broker,.int .i64 v97.Epoch,.int .i64 v97.Part,.int .i64 v97.Stamp,v100]) rfl ?_
 obtain ⟨v224,hx225,hF226⟩:=qm hF217
 simp only [qh,zg,B0,reduceIte,reduceEqDiff]
 refine qau rfl (qhu hW k v97 v100 c101 hv102 v215.1 v224 hx225 (Sep.m7 hS223)) ?_
 rintro _ h229 ⟨c227,rfl,hv228,hS230⟩
 simp only [qh,qa,q3g,qf,qe,qs,qb,k8,B0,reduceIte,reduceEqDiff]
 obtain ⟨v234,hx235,hF236⟩:=qm hF226
 refine zt 5 (fun fr' h'=>Sep h' (geL h.length) (c57++(c61++(c121++(c125++([])))))∧fr' 87 = .bool v234∧fr' 2 = .ref [lst qg v_0.Brokers,
   lst qd v_0.Parts,.int .i64 v_0.Next] 0∧fr' 3 = .ref [.int .i64 v_1.Kind,.int .i64 v_1.Broker,.int .i64 v_1.Epoch,.int .i64 v_1.Part,.int .i64 v_1.Stamp,
   lst cI v_1.InStep] 0∧fr' 6 = .ref [v56,v60,.int .i64 v53.1.Next] 0∧fr' 7 = .int .i64 v53.2.1∧fr' 8 = .bool v53.2.2∧fr' 11 = .ref [v120,v124,
   .int .i64 v117.1.Next] 0∧fr' 12 = .int .i64 v117.2.1∧fr' 13 = .bool v117.2.2) (fun Q231 hN232=>?_) ?_
 ·simp only [List.take_succ_cons,List.take_zero]
  simp only [qc (g:=82),B0,reduceIte,reduceEqDiff]
  refine q9 (t:=(decide (v224.1<0))) (fun hg233=>?_) (fun hg233=>?_)
  ·rw [iteT hg233] at hx235
   simp only [hg233,qc (g:=82),zu,qr,qb,zj,qa,qo,B0,reduceIte,reduceEqDiff]
   have e237:=qj hx235
   exact hN232 _ _ ⟨(Sep.m3 (Sep.m3 (Sep.m3 (Sep.m3 (Sep.dc ((Sep.dc ((Sep.dc ((Sep.dc ((Sep.dc ((Sep.dc (hS230)))))))))))))))),by rw [←e237]; simp only [B0,reduceIte,
     reduceEqDiff],f166,f167,f168,f169,f170,f173,f174,f175⟩
  ·rw [iteF hg233] at hx235
   simp only [hg233,qc (g:=82),qt,f173,ql,B0,reduceIte,reduceEqDiff]
   refine qi (v := .agg [v120,v124,.int .i64 v117.1.Next]) rfl ?_
   simp only [hg233,qc (g:=82),qt,f168,ql,B0,reduceIte,reduceEqDiff]
   refine qi (v := .agg [v56,v60,.int .i64 v53.1.Next]) rfl ?_
   obtain ⟨v238,hx239,hF240⟩:=qm hx235
   simp only [hg233,qc (g:=82),qt,zg,B0,reduceIte,reduceEqDiff]
   refine z5 rfl (qk (zv (qk (SlF.snap hv122 (Sep.m8 hS230) rfl (fun _=>rfl) (fun _=>rfl)) (qk (SlN.snap hv126 _ (Sep.m9 hS230) rfl Partition.RO)
     (qk qp ze)))) (qk (zv (qk (SlF.snap hv58 (Sep.m6 hS230) rfl (fun _=>rfl) (fun _=>rfl)) (qk (SlN.snap hv62 _
     (Sep.m7 hS230) rfl Partition.RO) (qk qp ze)))) ze)) (qbl (fun b hb=>decide_eq_true hb) k v117.1 v53.1 v238 hx239) ?_
   simp only [hg233,qc (g:=82),qt,ji,qb,j5,qr,zi,qa,qo,B0,reduceIte,reduceEqDiff]
   have e241:=qj hF240
   exact hN232 _ _ ⟨(Sep.m3 (Sep.m3 (Sep.m3 (Sep.m3 (Sep.dc ((Sep.dc ((Sep.dc ((Sep.dc ((Sep.dc ((Sep.dc (hS230)))))))))))))))),by rw [←e241]; simp only [B0,reduceIte,
     reduceEqDiff],f166,f167,f168,f169,f170,f173,f174,f175⟩
 rintro fr242 h252 ⟨hS253,f243,f244,f245,f246,f247,f248,f249,f250,f251⟩
 simp only [List.drop_succ_cons,List.drop_zero]
 simp only [f243,qh,B0,reduceIte,reduceEqDiff]
 refine zt 4 (fun fr' h'=>Sep h' (geL h.length) (c57++(c61++(c121++(c125++([])))))∧fr' 92 = .bool (v234||(decide
   (v117.2.1≠v53.2.1)))∧fr' 2 = .ref [lst qg v_0.Brokers,lst qd v_0.Parts,.int .i64 v_0.Next] 0∧fr' 3 = .ref [.int .i64 v_1.Kind,
   .int .i64 v_1.Broker,.int .i64 v_1.Epoch,.int .i64 v_1.Part,.int .i64 v_1.Stamp,lst cI v_1.InStep] 0∧fr' 6 = .ref [v56,v60,
   .int .i64 v53.1.Next] 0∧fr' 7 = .int .i64 v53.2.1∧fr' 8 = .bool v53.2.2∧fr' 11 = .ref [v120,v124,
   .int .i64 v117.1.Next] 0∧fr' 13 = .bool v117.2.2) (fun Q254 hN255=>?_) ?_
 ·simp only [List.take_succ_cons,List.take_zero]
  simp only [qc (g:=88),B0,reduceIte,reduceEqDiff]
  refine q9 (t:=v234) (fun hg256=>?_) (fun hg256=>?_)
  ·simp only [hg256,qc (g:=88),zu,qr,qb,zj,qa,qo,B0,reduceIte,reduceEqDiff]
   exact hN255 _ _ ⟨(Sep.m3 (Sep.m3 (Sep.m3 (Sep.m3 hS253)))),by rw [orT hg256]; simp only [B0,reduceIte,reduceEqDiff],f244,f245,f246,f247,f248,f249,f251⟩
  ·simp only [hg256,qc (g:=88),qt,f250,qh,f247,qs,qb,kh,qr,zi,qa,qo,B0,reduceIte,reduceEqDiff]
   exact hN255 _ _ ⟨(Sep.m3 (Sep.m3 (Sep.m3 (Sep.m3 hS253)))),by rw [orF hg256]; simp only [B0,reduceIte,reduceEqDiff],f244,f245,f246,f247,f248,f249,f251⟩
 rintro fr257 h266 ⟨hS267,f258,f259,f260,f261,f262,f263,f264,f265⟩
 simp only [List.drop_succ_cons,List.drop_zero]
 simp only [f258,qh,B0,reduceIte,reduceEqDiff]
 refine zt 4 (fun fr' h'=>Sep h' (geL h.length) (c57++(c61++(c121++(c125++([])))))∧fr' 97 = .bool ((v234||(decide (v117.2.1≠v53.2.1))) ||
   (!(v117.2.2 == v53.2.2)))∧fr' 2 = .ref [lst qg v_0.Brokers,lst qd v_0.Parts,.int .i64 v_0.Next] 0∧fr' 3 = .ref [.int .i64 v_1.Kind,
   .int .i64 v_1.Broker,.int .i64 v_1.Epoch,.int .i64 v_1.Part,.int .i64 v_1.Stamp,lst cI v_1.InStep] 0∧fr' 6 = .ref [v56,v60,
   .int .i64 v53.1.Next] 0∧fr' 7 = .int .i64 v53.2.1∧fr' 8 = .bool v53.2.2∧fr' 11 = .ref [v120,v124,.int .i64 v117.1.Next] 0) (fun Q268 hN269=>?_) ?_
 ·simp only [List.take_succ_cons,List.take_zero]
  simp only [qc (g:=93),B0,reduceIte,reduceEqDiff]
  refine q9 (t:=(v234||(decide (v117.2.1≠v53.2.1)))) (fun hg270=>?_) (fun hg270=>?_)
  ·simp only [hg270,qc (g:=93),zu,qr,qb,zj,qa,qo,B0,reduceIte,reduceEqDiff]
   exact hN269 _ _ ⟨(Sep.m3 (Sep.m3 (Sep.m3 (Sep.m3 hS267)))),by rw [orT hg270]; simp only [B0,reduceIte,reduceEqDiff],f259,f260,f261,f262,f263,f264⟩
  ·simp only [hg270,qc (g:=93),qt,f265,qh,f263,qeg,qb,qfp,qr,zi,qa,qo,B0,reduceIte,reduceEqDiff]
   exact hN269 _ _ ⟨(Sep.m3 (Sep.m3 (Sep.m3 (Sep.m3 hS267)))),by rw [orF hg270]; simp only [B0,reduceIte,reduceEqDiff],f259,f260,f261,f262,f263,f264⟩
 rintro fr271 h279 ⟨hS280,f272,f273,f274,f275,f276,f277,f278⟩
 simp only [List.drop_succ_cons,List.drop_zero]
 simp only [qa,f272,qy,B0,reduceIte,reduceEqDiff]
 refine qu (t:=((v234||(decide (v117.2.1≠v53.2.1)))||(!(v117.2.2 == v53.2.2)))) (fun hc281=>?_) (fun hc281=>?_)
 ·rw [iteT hc281] at hF236
  simp only [qf,qe,qh,qa,qx,B0,reduceIte,reduceEqDiff]
  have he:=qj hF236
  subst he
  simp only [qw,B0,reduceIte,reduceEqDiff]
  exact rfl
 rw [iteF hc281] at hF236
 simp only [za,q2r,qf,qe,qh,qa,qxf,f278,ql,B0,reduceIte,reduceEqDiff]
 refine qi (v := .agg [v120,v124,.int .i64 v117.1.Next]) rfl ?_
 obtain ⟨v282,hx283,hF284⟩:=qm hF236
 simp only [qh,zg,B0,reduceIte,reduceEqDiff]
 refine qau rfl (qer hW k v117.1 v120 c121 hv122 v124 c125 hv126 1 v282 hx283 (Sep.m3 (Sep.m3 hS280))) ?_
 rintro _ h289 ⟨c285,c287,rfl,hv286,hv288,hS290⟩
 simp only [qh,qa,q3a,qf,qe,q5o,f278,ql,B0,reduceIte,reduceEqDiff]
 refine qi (v := .agg [v120,v124,.int .i64 v117.1.Next]) rfl ?_
 obtain ⟨v291,hx292,hF293⟩:=qm hF284
 simp only [qh,zg,B0,reduceIte,reduceEqDiff]
 refine z5 rfl (qk (zv (qk (SlF.snap hv286 hS290 rfl (fun _=>rfl) (fun _=>rfl)) (qk (SlN.snap hv288 _ (Sep.m1 hS290) rfl Partition.RO)
   (qk qp ze)))) (qk qp ze)) (qev (fun b hb=>decide_eq_true hb) k (Control.mk v282.2.Brokers v282.2.Parts v117.1.Next) 1 v291 hx292) ?_
 simp only [qh,qa,q5v,qf,qe,qs,qb,k8,qy,B0,reduceIte,reduceEqDiff]
 refine qu (t:=(decide (v291<0))) (fun hc294=>?_) (fun hc294=>?_)
 ·rw [iteT hc294] at hF293
  simp only [qf,qe,qh,qa,qx,B0,reduceIte,reduceEqDiff]
  have he:=qj hF293
  subst he
  simp only [qw,B0,reduceIte,reduceEqDiff]
  exact rfl
 rw [iteF hc294] at hF293
 simp only [za,q6b,qf,qe,qh,qs,qb,kh,qa,qy,B0,reduceIte,reduceEqDiff]
 refine qu (t:=(decide (v291≠v282.1))) (fun hc295=>?_) (fun hc295=>?_)
 ·rw [iteT hc295] at hF293
  simp only [qf,qe,qh,qa,qx,B0,reduceIte,reduceEqDiff]
  have he:=qj hF293
  subst he
  simp only [qw,B0,reduceIte,reduceEqDiff]
  exact rfl
 rw [iteF hc295] at hF293
 simp only [za,q5s,qf,jq,qif,B0,reduceIte,reduceEqDiff]
 refine qdk hS290 (fun b296 h297 hS298=>?_)
 simp only [f273,z8,B0,reduceIte,reduceEqDiff]
 refine zf (v := .agg [lst qg v_0.Brokers,lst qd v_0.Parts,.int .i64 v_0.Next]) rfl ?_
 obtain ⟨v300,hx301,hF302⟩:=qm hF293
 simp only [qc0,B0,reduceIte,reduceEqDiff]
 refine qh0 rfl hS298 (qk (zv (qk zh (qk zh (qk qp ze)))) ze) (qbj (fun b hb=>decide_eq_true hb) k v_0 v300 hx301) ?_
 rintro _ h311 ⟨v303,c304,v307,c308,rfl,hv305,hv309,hS312⟩
 refine ⟨_,uz (qv (SlF.free1 hv305) (qv (SlN.free1 hv309) (qv rfl zx))),hS312,
   (js (SlF.pf hv305 (fun _=>rfl)) (js (SlN.pf hv309 Partition.RO) k9)),fun h313 hS314=>?_⟩
 have hS315:Sep h313 (geL h.length) (c304++(c308++([Blk1 b296 [.nil,.nil,
   .int .i64 0] 29]++(c285++(c287++(c57++(c61++([])))))))):=by simpa only [List.append_assoc,List.nil_append] using hS314
 simp only [f274,qb2,qa2,B0,reduceIte,reduceEqDiff]
 refine zf (v := .agg [.int .i64 v_1.Kind,.int .i64 v_1.Broker,.int .i64 v_1.Epoch,.int .i64 v_1.Part,.int .i64 v_1.Stamp,lst cI v_1.InStep]) rfl ?_
 obtain ⟨v316,hx317,hF318⟩:=qm hF302
 simp only [kq,B0,reduceIte,reduceEqDiff]
 refine qke rfl hS315 (qk (zv (qk qp (qk qp (qk qp (qk qp (qk qp (qk zh ze))))))) ze) (qbm
   (fun b hb=>decide_eq_true hb) k v_1 v316 hx317) ?_
 rintro _ h323 ⟨v319,c320,rfl,hv321,hS324⟩
 refine ⟨_,uz (qv rfl (qv rfl (qv rfl (qv rfl (qv rfl (qv (SlF.free1 hv321) zx)))))),hS324,(js (SlF.pf hv321 (fun _=>rfl)) k9),
   fun h325 hS326=>?_⟩
 have hS327:Sep h325 (geL h.length) (c320++(c304++(c308++([Blk1 b296 [.nil,.nil,
   .int .i64 0] 29]++(c285++(c287++(c57++(c61++([]))))))))):=by simpa only [List.append_assoc,List.nil_append] using hS326
 obtain ⟨v328,hx329,hF330⟩:=qm hF318
 simp only [kq,B0,reduceIte,reduceEqDiff]
 refine qke rfl hS327 (qk (zv (qk (SlF.snap hv305 (Sep.m1 hS327) rfl (fun _=>rfl) (fun _=>rfl)) (qk (SlN.snap hv309 _ (Sep.m2 hS327) rfl Partition.RO)
   (qk qp ze)))) (qk (zv (qk qp (qk qp (qk qp (qk qp (qk qp (qk (SlF.snap hv321 hS327 rfl (fun _=>rfl)
   (fun _=>rfl)) ze))))))) ze)) (qfr (fun b hb=>decide_eq_true hb) v300 v316 v328 hx329) ?_
 rintro _ h339 ⟨v331,c332,v335,c336,rfl,hv333,hv337,hS340⟩
 refine ⟨_,qkc (qv (qit (qv (SlF.free1 hv333) (qv (SlN.free1 hv337) (qv rfl zx)))) (qv rfl (qv rfl zx))),hS340,
   (js (SlF.pf hv333 (fun _=>rfl)) (js (SlN.pf hv337 Partition.RO) k9)),fun h341 hS342=>?_⟩
 have hS343:Sep h341 (geL h.length) (c332++(c336++(c320++(c304++(c308++([Blk1 b296 [.nil,.nil,
   .int .i64 0] 29]++(c285++(c287++(c57++(c61++([]))))))))))):=by simpa only [List.append_assoc,List.nil_append] using hS342
 simp only [jy,qz,qme,qib,qmv,qh4,qmt,qcp,B0,reduceIte,reduceEqDiff]
 refine qbn (us:=[v331,v335,.int .i64 v328.1.Next]) rfl (cs':=[v331,v335,
   .int .i64 v328.1.Next]) (Sep.m5 hS343) hW rfl (qv (SlF.one hv333) (qv (SlN.one hv337) (qv rfl zx))) (nle rfl) rfl (fun h344 hS345=>?_)
 simp only [jy,qz,zp,B0,reduceIte,reduceEqDiff]
 refine zn hS345 hW (by simp only [B0,reduceIte,reduceEqDiff]) (fun h346 hS347=>?_)
 simp only [zo,q5u,qf,qe,ql,B0,reduceIte,reduceEqDiff]
 refine qi (v := .agg [v331,v335,.int .i64 v328.1.Next]) rfl ?_
 simp only [f275,ql,B0,reduceIte,reduceEqDiff]
 refine qi (v := .agg [v56,v60,.int .i64 v53.1.Next]) rfl ?_
 obtain ⟨v348,hx349,hF350⟩:=qm hF330
 simp only [zg,B0,reduceIte,reduceEqDiff]
 refine z5 rfl (qk (zv (qk (SlF.snap hv333 hS347 rfl (fun _=>rfl) (fun _=>rfl)) (qk (SlN.snap hv337 _ (Sep.m1 hS347) rfl Partition.RO)
   (qk qp ze)))) (qk (zv (qk (SlF.snap hv58 (Sep.m7 hS347) rfl (fun _=>rfl) (fun _=>rfl)) (qk (SlN.snap hv62 _ (Sep.m8 hS347) rfl Partition.RO)
   (qk qp ze)))) ze)) (qbl (fun b hb=>decide_eq_true hb) k v328.1 v53.1 v348 hx349) ?_
 simp only [ji,qb,j5,qh,B0,reduceIte,reduceEqDiff]
 refine zt 4 (fun fr' h'=>Sep h' (geL h.length) (c285++(c287++([])))∧fr' 126 = .bool ((!v348)||(decide
   (v328.2.1≠v53.2.1)))∧fr' 8 = .bool v53.2.2∧fr' 11 = .ref [v120,v124,
   .int .i64 v117.1.Next] 0∧fr' 15 = .int .i64 v282.1∧fr' 19 = .bool v328.2.2) (fun Q351 hN352=>?_) ?_
 ·simp only [List.take_succ_cons,List.take_zero]
  simp only [qc (g:=122),B0,reduceIte,reduceEqDiff]
  refine q9 (t:=(!v348)) (fun hg353=>?_) (fun hg353=>?_)
  ·simp only [hg353,qc (g:=122),zu,qr,qb,zj,qa,qo,B0,reduceIte,reduceEqDiff]
   exact hN352 _ _ ⟨(Sep.m1 (Sep.m1 (Sep.dc (Sep.m2 (Sep.dc (Sep.m2 (Sep.dc ((Sep.dc ((Sep.dc ((Sep.dc ((Sep.dc (hS347)))))))))))))))),by rw [orT hg353]; simp only [B0,
     reduceIte,reduceEqDiff],f277,f278,rfl,rfl⟩
  ·simp only [hg353,qc (g:=122),qt,qh,f276,qs,qb,kh,qr,zi,qa,qo,B0,reduceIte,reduceEqDiff]
   exact hN352 _ _ ⟨(Sep.m1 (Sep.m1 (Sep.dc (Sep.m2 (Sep.dc (Sep.m2 (Sep.dc ((Sep.dc ((Sep.dc ((Sep.dc ((Sep.dc (hS347)))))))))))))))),by rw [orF hg353]; simp only [B0,
     reduceIte,reduceEqDiff],f277,f278,rfl,rfl⟩
 rintro fr354 h360 ⟨hS361,f355,f356,f357,f358,f359⟩
 simp only [List.drop_succ_cons,List.drop_zero]
 simp only [f355,qh,B0,reduceIte,reduceEqDiff]
 refine zt 4 (fun fr' h'=>Sep h' (geL h.length) (c285++(c287++([])))∧fr' 131 = .bool (((!v348)||(decide (v328.2.1≠v53.2.1))) ||
   (!(v328.2.2 == v53.2.2)))∧fr' 11 = .ref [v120,v124,.int .i64 v117.1.Next] 0∧fr' 15 = .int .i64 v282.1) (fun Q362 hN363=>?_) ?_
 ·simp only [List.take_succ_cons,List.take_zero]
  simp only [qc (g:=127),B0,reduceIte,reduceEqDiff]
  refine q9 (t:=((!v348)||(decide (v328.2.1≠v53.2.1)))) (fun hg364=>?_) (fun hg364=>?_)
  ·simp only [hg364,qc (g:=127),zu,qr,qb,zj,qa,qo,B0,reduceIte,reduceEqDiff]
   exact hN363 _ _ ⟨(Sep.m1 (Sep.m1 hS361)),by rw [orT hg364]; simp only [B0,reduceIte,reduceEqDiff],f357,f358⟩
  ·simp only [hg364,qc (g:=127),qt,f359,qh,f356,qeg,qb,qfp,qr,zi,qa,qo,B0,reduceIte,reduceEqDiff]
   exact hN363 _ _ ⟨(Sep.m1 (Sep.m1 hS361)),by rw [orF hg364]; simp only [B0,reduceIte,reduceEqDiff],f357,f358⟩
 rintro fr365 h369 ⟨hS370,f366,f367,f368⟩
 simp only [List.drop_succ_cons,List.drop_zero]
 simp only [qa,f366,qy,B0,reduceIte,reduceEqDiff]
 refine qu (t:=(((!v348)||(decide (v328.2.1≠v53.2.1)))||(!(v328.2.2 == v53.2.2)))) (fun hc371=>?_) (fun hc371=>?_)
 ·rw [iteT hc371] at hF350
  simp only [qf,qe,qh,qa,qx,B0,reduceIte,reduceEqDiff]
  have he:=qj hF350
  subst he
  simp only [qw,B0,reduceIte,reduceEqDiff]
  exact rfl
 rw [iteF hc371] at hF350
 simp only [za,q52,qf,qe,qh,qa,q53,f367,ql,B0,reduceIte,reduceEqDiff]
 refine qi (v := .agg [v120,v124,.int .i64 v117.1.Next]) rfl ?_
 obtain ⟨v372,hx373,hF374⟩:=qm hF350
 simp only [qh,zg,B0,reduceIte,reduceEqDiff]
 refine z5 rfl (qk (zv (qk (SlF.snap hv286 hS370 rfl (fun _=>rfl) (fun _=>rfl)) (qk (SlN.snap hv288 _ (Sep.m1 hS370) rfl Partition.RO)
   (qk qp ze)))) (qk qp ze)) (qev (fun b hb=>decide_eq_true hb) k (Control.mk v282.2.Brokers v282.2.Parts v117.1.Next) 1 v372 hx373) ?_
 simp only [qh,qa,q5p,qf,qe,qs,qb,k8,qy,B0,reduceIte,reduceEqDiff]
 refine qu (t:=(decide (v372<0))) (fun hc375=>?_) (fun hc375=>?_)
 ·rw [iteT hc375] at hF374
  simp only [qf,qe,qh,qa,qx,B0,reduceIte,reduceEqDiff]
  have he:=qj hF374
  subst he
  simp only [qw,B0,reduceIte,reduceEqDiff]
  exact rfl
 rw [iteF hc375] at hF374
 simp only [za,q5q,qf,qe,qh,f368,qs,qb,kh,qa,qy,B0,reduceIte,reduceEqDiff]
 refine qu (t:=(decide (v372≠v282.1))) (fun hc376=>?_) (fun hc376=>?_)
 ·rw [iteT hc376] at hF374
  simp only [qf,qe,qh,qa,qx,B0,reduceIte,reduceEqDiff]
  have he:=qj hF374
  subst he
  simp only [qw,B0,reduceIte,reduceEqDiff]
  exact rfl
 rw [iteF hc376] at hF374
 simp only [za,qf,qe,qh,qa,qx,B0,reduceIte,reduceEqDiff]
 have he:=qj hF374
 subst he
 simp only [qw,B0,reduceIte,reduceEqDiff]
 exact rfl
end Go.Proofs.Ytjloihcijdcpeaa.X
