/- The functions' code comes to what the plain functions say (6). -/
import Derived.Test.YtjloihcijdcpeaaXBH5
set_option linter.unusedVariables false
set_option linter.unusedSimpArgs false
set_option maxRecDepth 100000
namespace Go.Proofs.Ytjloihcijdcpeaa.X
open Go
open Nat (reduceEqDiff)
theorem qjg {W:Nat→Bool}{h:Heap} (hW:∀ b,
  (geL h.length) b→W b=true) (k:Nat) (a_0:Command) (b_1:Command) (r:Bool) (hF:qa9 k a_0 b_1=some r) : Ret E W 43 [.agg [.int .i64 a_0.Kind,
  .int .i64 a_0.Broker,.int .i64 a_0.Epoch,.int .i64 a_0.Part,.int .i64 a_0.Stamp,lst cI a_0.InStep],.agg [.int .i64 b_1.Kind,.int .i64 b_1.Broker,.int .i64 b_1.Epoch,
  .int .i64 b_1.Part,.int .i64 b_1.Stamp,lst cI b_1.InStep]] h (fun v h'=>cut h.length h' E.sz false 9 v=some (.bool r)):=by
 refine Ret.of (fn:=x43) rfl (Run.of ?_)
 unfold qa9 at hF
 have zf0:zc [.agg [.int .i64 a_0.Kind,.int .i64 a_0.Broker,.int .i64 a_0.Epoch,.int .i64 a_0.Part,.int .i64 a_0.Stamp,lst cI a_0.InStep],.agg [.int .i64 b_1.Kind,
   .int .i64 b_1.Broker,.int .i64 b_1.Epoch,.int .i64 b_1.Part,.int .i64 b_1.Stamp,lst cI b_1.InStep]] 0 = .agg [.int .i64 a_0.Kind,.int .i64 a_0.Broker,
   .int .i64 a_0.Epoch,.int .i64 a_0.Part,.int .i64 a_0.Stamp,lst cI a_0.InStep]:=rfl
 have zf1:zc [.agg [.int .i64 a_0.Kind,.int .i64 a_0.Broker,.int .i64 a_0.Epoch,.int .i64 a_0.Part,.int .i64 a_0.Stamp,lst cI a_0.InStep],.agg [.int .i64 b_1.Kind,
   .int .i64 b_1.Broker,.int .i64 b_1.Epoch,.int .i64 b_1.Part,.int .i64 b_1.Stamp,lst cI b_1.InStep]] 1 = .agg [.int .i64 b_1.Kind,.int .i64 b_1.Broker,
   .int .i64 b_1.Epoch,.int .i64 b_1.Part,.int .i64 b_1.Stamp,lst cI b_1.InStep]:=rfl
 generalize zc [.agg [.int .i64 a_0.Kind,.int .i64 a_0.Broker,.int .i64 a_0.Epoch,.int .i64 a_0.Part,.int .i64 a_0.Stamp,lst cI a_0.InStep],.agg [.int .i64 b_1.Kind,
   .int .i64 b_1.Broker,.int .i64 b_1.Epoch,.int .i64 b_1.Part,.int .i64 b_1.Stamp,lst cI b_1.InStep]]=fr0 at zf0 zf1 ⊢
 have hS:Sep h (geL h.length) []:=Sep.nil h
 simp only [x43,qd,qc,jm,zf0,B0,reduceIte,reduceEqDiff]
 refine z8 (cs:=[.int .i64 a_0.Kind,.int .i64 a_0.Broker,.int .i64 a_0.Epoch,.int .i64 a_0.Part,.int .i64 a_0.Stamp,
   lst cI a_0.InStep]) hS rfl rfl rfl (fun b1 h2 hS3=>?_)
 simp only [jm,zf1,B0,reduceIte,reduceEqDiff]
 refine z8 (cs:=[.int .i64 b_1.Kind,.int .i64 b_1.Broker,.int .i64 b_1.Epoch,.int .i64 b_1.Part,.int .i64 b_1.Stamp,
   lst cI b_1.InStep]) hS3 rfl rfl rfl (fun b5 h6 hS7=>?_)
 simp only [qe,qa,B0,reduceIte,reduceEqDiff]
 refine zu (Sep.m1 hS7) hW (by simp only [B0,reduceIte,reduceEqDiff]) (fun h9 hS10=>?_)
 refine zu hS10 hW (by simp only [B0,reduceIte,reduceEqDiff]) (fun h11 hS12=>?_)
 simp only [zx,qys,qd,qc,qo,qb,Nat.reduceAdd,Nat.zero_add,Nat.add_zero,qq,qm,B0,reduceIte,reduceEqDiff]
 refine qg (v := .int .i64 a_0.Kind) rfl ?_
 simp only [qo,qb,Nat.reduceAdd,Nat.zero_add,Nat.add_zero,qq,qm,B0,reduceIte,reduceEqDiff]
 refine qg (v := .int .i64 b_1.Kind) rfl ?_
 simp only [qp,qb,kx,qa,qx,B0,reduceIte,reduceEqDiff]
 refine qr (t:=(decide (a_0.Kind≠b_1.Kind))) (fun hc13=>?_) (fun hc13=>?_)
 ·rw [iteT hc13] at hF
  simp only [qd,qc,qe,qa,qv,B0,reduceIte,reduceEqDiff]
  have he:=qh hF
  subst he
  simp only [qw,B0,reduceIte,reduceEqDiff]
  exact rfl
 rw [iteF hc13] at hF
 simp only [q8,q2o,qd,qc,qo,qb,Nat.reduceAdd,Nat.zero_add,Nat.add_zero,qq,qm,B0,reduceIte,reduceEqDiff]
 refine qg (v := .int .i64 a_0.Broker) rfl ?_
 simp only [qo,qb,Nat.reduceAdd,Nat.zero_add,Nat.add_zero,qq,qm,B0,reduceIte,reduceEqDiff]
 refine qg (v := .int .i64 b_1.Broker) rfl ?_
 simp only [qp,qb,kx,qa,qx,B0,reduceIte,reduceEqDiff]
 refine qr (t:=(decide (a_0.Broker≠b_1.Broker))) (fun hc14=>?_) (fun hc14=>?_)
 ·rw [iteT hc14] at hF
  simp only [qd,qc,qe,qa,qv,B0,reduceIte,reduceEqDiff]
  have he:=qh hF
  subst he
  simp only [qw,B0,reduceIte,reduceEqDiff]
  exact rfl
 rw [iteF hc14] at hF
 simp only [q8,qxj,qd,qc,qo,qb,Nat.reduceAdd,Nat.zero_add,Nat.add_zero,qq,qm,B0,reduceIte,reduceEqDiff]
 refine qg (v := .int .i64 a_0.Epoch) rfl ?_
 simp only [qo,qb,Nat.reduceAdd,Nat.zero_add,Nat.add_zero,qq,qm,B0,reduceIte,reduceEqDiff]
 refine qg (v := .int .i64 b_1.Epoch) rfl ?_
 simp only [qp,qb,kx,qa,qx,B0,reduceIte,reduceEqDiff]
 refine qr (t:=(decide (a_0.Epoch≠b_1.Epoch))) (fun hc15=>?_) (fun hc15=>?_)
 ·rw [iteT hc15] at hF
  simp only [qd,qc,qe,qa,qv,B0,reduceIte,reduceEqDiff]
  have he:=qh hF
  subst he
  simp only [qw,B0,reduceIte,reduceEqDiff]
  exact rfl
 rw [iteF hc15] at hF
 simp only [q8,qzj,qd,qc,qo,qb,Nat.reduceAdd,Nat.zero_add,Nat.add_zero,qq,qm,B0,reduceIte,reduceEqDiff]
 refine qg (v := .int .i64 a_0.Part) rfl ?_
 simp only [qo,qb,Nat.reduceAdd,Nat.zero_add,Nat.add_zero,qq,qm,B0,reduceIte,reduceEqDiff]
 refine qg (v := .int .i64 b_1.Part) rfl ?_
 simp only [qp,qb,kx,qa,qx,B0,reduceIte,reduceEqDiff]
 refine qr (t:=(decide (a_0.Part≠b_1.Part))) (fun hc16=>?_) (fun hc16=>?_)
 ·rw [iteT hc16] at hF
  simp only [qd,qc,qe,qa,qv,B0,reduceIte,reduceEqDiff]
  have he:=qh hF
  subst he
  simp only [qw,B0,reduceIte,reduceEqDiff]
  exact rfl
 rw [iteF hc16] at hF
 simp only [q8,q3s,qd,qc,qo,qb,Nat.reduceAdd,Nat.zero_add,Nat.add_zero,qq,qm,B0,reduceIte,reduceEqDiff]
 refine qg (v := .int .i64 a_0.Stamp) rfl ?_
 simp only [qo,qb,Nat.reduceAdd,Nat.zero_add,Nat.add_zero,qq,qm,B0,reduceIte,reduceEqDiff]
 refine qg (v := .int .i64 b_1.Stamp) rfl ?_
 simp only [qp,qb,kx,qa,qx,B0,reduceIte,reduceEqDiff]
 refine qr (t:=(decide (a_0.Stamp≠b_1.Stamp))) (fun hc17=>?_) (fun hc17=>?_)
 ·rw [iteT hc17] at hF
  simp only [qd,qc,qe,qa,qv,B0,reduceIte,reduceEqDiff]
  have he:=qh hF
  subst he
  simp only [qw,B0,reduceIte,reduceEqDiff]
  exact rfl
 rw [iteF hc17] at hF
 simp only [q8,q3f,qd,qc,qo,qb,Nat.reduceAdd,Nat.zero_add,Nat.add_zero,qq,qm,B0,reduceIte,reduceEqDiff]
 refine qg (v:=lst cI a_0.InStep) rfl ?_
 simp only [qo,qb,Nat.reduceAdd,Nat.zero_add,Nat.add_zero,qq,qm,B0,reduceIte,reduceEqDiff]
 refine qg (v:=lst cI b_1.InStep) rfl ?_
 obtain ⟨v18,hx19,hF20⟩:=ql hF
 simp only [zf,B0,reduceIte,reduceEqDiff]
 refine ja rfl (qk zm (qk zm zg)) (qab (fun b hb=>decide_eq_true hb) k a_0.InStep b_1.InStep v18 hx19) ?_
 simp only [jl,qb,kd,qa,qx,B0,reduceIte,reduceEqDiff]
 refine qr (t:=(!v18)) (fun hc21=>?_) (fun hc21=>?_)
 ·rw [iteT hc21] at hF20
  simp only [qd,qc,qe,qa,qv,B0,reduceIte,reduceEqDiff]
  have he:=qh hF20
  subst he
  simp only [qw,B0,reduceIte,reduceEqDiff]
  exact rfl
 rw [iteF hc21] at hF20
 simp only [q8,qd,qc,qe,qa,qv,B0,reduceIte,reduceEqDiff]
 have he:=qh hF20
 subst he
 simp only [qw,B0,reduceIte,reduceEqDiff]
 exact rfl
theorem qit {W:Nat→Bool}{h:Heap} (hW:∀ b,
  (geL h.length) b→W b=true) (k:Nat) (a_0:List Command) (b_1:List Command) (r:Bool) (hF:qaq k a_0 b_1=some r) : Ret E W 33 [lst zh a_0,
  lst zh b_1] h (fun v h'=>cut h.length h' E.sz false 9 v=some (.bool r)):=by
 refine Ret.of (fn:=x33) rfl (Run.of ?_)
 unfold qaq at hF
 have zf0:zc [lst zh a_0,lst zh b_1] 0=lst zh a_0:=rfl
 have zf1:zc [lst zh a_0,lst zh b_1] 1=lst zh b_1:=rfl
 generalize zc [lst zh a_0,lst zh b_1]=fr0 at zf0 zf1 ⊢
 have hS:Sep h (geL h.length) []:=Sep.nil h
 simp only [x33,qd,qc,qe,qa,qyb,zf0,zo,qb,zt,zf1,qp,kx,qx,B0,reduceIte,reduceEqDiff]
 refine qr (t:=(decide ((List.length a_0:Int)≠(List.length b_1:Int)))) (fun hc1=>?_) (fun hc1=>?_)
 ·rw [iteT hc1] at hF
  simp only [qd,qc,qe,qa,qv,B0,reduceIte,reduceEqDiff]
  have he:=qh hF
  subst he
  simp only [qw,B0,reduceIte,reduceEqDiff]
  exact rfl
 rw [iteF hc1] at hF
 simp only [q8,qwq,qd,qc,qe,qa,B0,reduceIte,reduceEqDiff]
 obtain ⟨oc6,hX8,hk9⟩:=jh hF
 simp only [qwd]
 refine xh (σ:=Int) (fun s41=>xv k a_0 b_1 s41)
   (fun s fr' h'=>fr' 0=lst zh a_0∧fr' 1=lst zh b_1∧fr' 5 = .int .i64 s∧Sep h' (geL h.length) ([])) hX8 ⟨zf0,zf1,rfl,
   hS⟩ (fun _ _ _ h=>h) ?_ ?_
 ·rintro s3 fr18 h19 ⟨f21,f22,f23,hS20⟩ oc7 hF10 hr11 Q12 hN13 hK14 hR15 hE16
  unfold xv at hF10
  simp only [qxk,qd,qc,f23,qe,f21,zo,qb,zt,qp,yl,qa,qx,B0,reduceIte,reduceEqDiff]
  refine qr (t:=(decide (s3<(List.length a_0:Int)))) (fun hc25=>?_) (fun hc25=>?_)
  ·rw [iteT hc25] at hF10
   obtain ⟨x26,hx27,hF28⟩:=ql hF10
   simp only [q8,q2q,qd,jy,qyf,jz,f21,j8,qy,f23,xm,B0,reduceIte,reduceEqDiff]
   refine ze (v := .ref (zh x26) 0) (kf hx27 rfl) ?_
   simp only [z6,B0,reduceIte,reduceEqDiff]
   refine ze (v := .agg [.int .i64 x26.Kind,.int .i64 x26.Broker,.int .i64 x26.Epoch,.int .i64 x26.Part,.int .i64 x26.Stamp,lst cI x26.InStep]) rfl ?_
   obtain ⟨x29,hx30,hF31⟩:=ql hF28
   simp only [f22,j8,qy,f23,xm,B0,reduceIte,reduceEqDiff]
   refine ze (v := .ref (zh x29) 0) (kf hx30 rfl) ?_
   simp only [z6,B0,reduceIte,reduceEqDiff]
   refine ze (v := .agg [.int .i64 x29.Kind,.int .i64 x29.Broker,.int .i64 x29.Epoch,.int .i64 x29.Part,.int .i64 x29.Stamp,lst cI x29.InStep]) rfl ?_
   obtain ⟨v32,hx33,hF34⟩:=ql hF31
   simp only [xn,B0,reduceIte,reduceEqDiff]
   refine qez rfl (qk (jb (qk qs (qk qs (qk qs (qk qs (qk qs (qk zm zg))))))) (qk (jb
     (qk qs (qk qs (qk qs (qk qs (qk qs (qk zm zg))))))) zg)) (qjg
     (fun b hb=>decide_eq_true hb) k x26 x29 v32 hx33) ?_
   simp only [qg8,qy,kd,zq,qx,B0,reduceIte,reduceEqDiff]
   refine qr (t:=(!v32)) (fun hc35=>?_) (fun hc35=>?_)
   ·rw [iteT hc35] at hF34
    simp only [qd,qc,qe,qa,qv,B0,reduceIte,reduceEqDiff]
    have e36:=qh hF34
    subst e36
    have ho37:=hr11 _ rfl
    have hk38:=hk9
    rw [ho37] at hk38
    dsimp only [jnO] at hk38
    apply hR15
    have he:=qh hk38
    subst he
    simp only [qw,B0,reduceIte,reduceEqDiff]
    exact rfl
   rw [iteF hc35] at hF34
   simp only [q8,kh,qc,f23,qe,qp,qb,k7,qa,qn,B0,reduceIte,reduceEqDiff]
   have e39:=qh hF34
   exact hN13 _ _ _ e39.symm ⟨f21,f22,rfl,hS20⟩
  rw [iteF hc25] at hF10
  simp only [yv,yk,wb,B0,reduceIte,reduceEqDiff]
  have e40:=qh hF10
  exact hK14 _ _ _ e40.symm ⟨f21,f22,f23,hS20⟩
 rintro s42 fr43 h44 rfl ⟨f46,f47,f48,hS45⟩
 dsimp only [jnO] at hk9
 unfold qes at hk9
 simp only [qd,qc,qe,qa,qv,B0,reduceIte,reduceEqDiff]
 have he:=qh hk9
 subst he
 simp only [qw,B0,reduceIte,reduceEqDiff]
 exact rfl
theorem qb0 {W:Nat→Bool}{h:Heap}{lo:Nat→Prop}{S0:List Obj} (hW:∀ b,
  lo b→W b=true) (k:Nat) (pv0:XV) (pc0:List Obj) (a_0:List Int) (ph0:SlF cI 1 3 pv0 a_0 pc0) (k_1:Int) (r:Int × (List Int))
  (hF:ww k a_0 k_1=some r) (hS:Sep h lo (pc0++(S0))) : Ret E W 36 [pv0,.int .i64 k_1] h (fun v h'=>∃ ic0,
  v = .int .i64 r.1∧SlF cI 1 3 pv0 r.2 ic0∧Sep h' lo (ic0++(S0))):=by
 refine Ret.of (fn:=x36) rfl (Run.of ?_)
 unfold ww at hF
 have zf0:zc [pv0,.int .i64 k_1] 0=pv0:=rfl
 have zf1:zc [pv0,.int .i64 k_1] 1 = .int .i64 k_1:=rfl
 generalize zc [pv0,.int .i64 k_1]=fr0 at zf0 zf1 ⊢
 simp only [x36,qd,qc,qe,qa,q0o,B0,reduceIte,reduceEqDiff]
 obtain ⟨oc13,hX15,hk16⟩:=jh hF
 simp only [qz3]
 refine xh (σ:=Int × Int × (List Int)) (fun s45=>uy s45.1 s45.2.1 s45.2.2) (fun s fr' h'=>∃ c9,
   fr' 0=pv0∧fr' 1 = .int .i64 s.1∧fr' 5 = .int .i64 s.2.1∧SlF cI 1 3 pv0 s.2.2 c9∧Sep h' lo (c9++(S0))) hX15 ⟨pc0,zf0,zf1,rfl,ph0,hS⟩ (fun _ _ _ h=>h) ?_ ?_
 ·rintro ⟨s6,s7,s8⟩ fr25 h26 ⟨c9,f28,f29,f30,hv10,hS27⟩ oc14 hF17 hr18 Q19 hN20 hK21 hR22 hE23
  dsimp only at *
  unfold uy at hF17
  simp only [qx7,qd,qc,f30,qe,f28,zo,qb,SlF.plen hv10,qp,yl,qa,qx,B0,reduceIte,reduceEqDiff]
  refine qr (t:=(decide (s7<(List.length s8:Int)))) (fun hc32=>?_) (fun hc32=>?_)
  ·rw [iteT hc32] at hF17
   obtain ⟨x33,hx34,hF35⟩:=ql hF17
   simp only [q8,q1l,qd,jy,qv2,qc,f28,qe,f30,f29,zw,B0,reduceIte,reduceEqDiff]
   obtain ⟨b36,hb37⟩:=SlF.isrow hv10 (k8 hx34)
   refine qg (SlF.ia hv10 hb37 hx34) ?_
   simp only [zn,B0,reduceIte,reduceEqDiff]
   refine ue (f:=cI) (x':=s6) (o:=0) hv10 hS27 hW hb37 hx34 (fun _=>rfl) rfl rfl (nle rfl) rfl (fun c40 h38 hv41 hS39=>?_)
   have hx42:=ka (x':=s6) hx34
   simp only [qa,qc,f29,qe,qp,qb,k7,kh,f30,qn,B0,reduceIte,reduceEqDiff]
   have e43:=qh hF35
   exact hN20 _ _ _ e43.symm ⟨c40,f28,rfl,rfl,hv41,hS39⟩
  rw [iteF hc32] at hF17
  simp only [yv,yk,wb,B0,reduceIte,reduceEqDiff]
  have e44:=qh hF17
  exact hK21 _ _ _ e44.symm ⟨c9,f28,f29,f30,hv10,hS27⟩
 rintro ⟨s46,s47,s48⟩ fr51 h52 rfl ⟨c49,f54,f55,f56,hv50,hS53⟩
 dsimp only [jnO] at hk16
 dsimp only at *
 unfold qfs at hk16
 simp only [qd,qc,f55,qe,qa,qv,B0,reduceIte,reduceEqDiff]
 have he:=qh hk16
 subst he
 simp only [qw,B0,reduceIte,reduceEqDiff]
 exact ⟨c49,by first | trivial | rfl,hv50,hS53⟩
theorem qho {W:Nat→Bool}{h:Heap}{lo:Nat→Prop}{S0:List Obj} (hW:∀ b,
  lo b→W b=true) (k:Nat) (pv0:XV) (pc0:List Obj) (a_0:List Command) (ph0:SlN Command.R 6 44 pv0 a_0 pc0) (k_1:Int) (r:Int × (List Command))
  (hF:uj k a_0 k_1=some r) (hS:Sep h lo (pc0++(S0))) : Ret E W 34 [pv0,.int .i64 k_1] h (fun v h'=>∃ ic0,
  v = .int .i64 r.1∧SlN Command.R 6 44 pv0 r.2 ic0∧Sep h' lo (ic0++(S0))):=by
 refine Ret.of (fn:=x34) rfl (Run.of ?_)
 unfold uj at hF
 have zf0:zc [pv0,.int .i64 k_1] 0=pv0:=rfl
 have zf1:zc [pv0,.int .i64 k_1] 1 = .int .i64 k_1:=rfl
 generalize zc [pv0,.int .i64 k_1]=fr0 at zf0 zf1 ⊢
 simp only [x34,qd,qc,qe,qa,qrc,B0,reduceIte,reduceEqDiff]
 obtain ⟨oc13,hX15,hk16⟩:=jh hF
 simp only [qq1]
 refine xh (σ:=Int × Int × (List Command)) (fun s83=>wg k s83.1 s83.2.1 s83.2.2) (fun s fr' h'=>∃ c9,
   fr' 0=pv0∧fr' 1 = .int .i64 s.1∧fr' 5 = .int .i64 s.2.1∧SlN Command.R 6 44 pv0 s.2.2 c9∧Sep h' lo (c9++(S0))) hX15 ⟨pc0,zf0,zf1,rfl,ph0,
   hS⟩ (fun _ _ _ h=>h) ?_ ?_
 ·rintro ⟨s6,s7,s8⟩ fr25 h26 ⟨c9,f28,f29,f30,hv10,hS27⟩ oc14 hF17 hr18 Q19 hN20 hK21 hR22 hE23
  dsimp only at *
  unfold wg at hF17
  simp only [qpz,qd,qc,f30,qe,f28,zo,qb,SlN.len hv10,qp,yl,qa,qx,B0,reduceIte,reduceEqDiff]
  refine qr (t:=(decide (s7<(List.length s8:Int)))) (fun hc32=>?_) (fun hc32=>?_)
  ·rw [iteT hc32] at hF17
   obtain ⟨x33,hx34,hF35⟩:=ql hF17
   simp only [q8,qsi,qd,jy,qra,qc,f28,qe,f30,f29,zw,B0,reduceIte,reduceEqDiff]
   obtain ⟨b36,hb37⟩:=SlN.isrow hv10 (k8 hx34)
   refine qg (SlN.ia hv10 hb37 hx34) ?_
   obtain ⟨c40,cs41,os42,hv43,hR44,hS45⟩:=SlG.opn (SlN.toG hv10 hb37 Command.RO.len) hx34 js Command.RO.len hS27
   obtain ⟨v47,c48,hv49,rfl,rfl⟩:=hR44
   have hS46:=Sep.no1 hS45
   simp only [qo,qb,Nat.reduceAdd,Nat.zero_add,Nat.add_zero,za,zn,B0,reduceIte,reduceEqDiff]
   refine ya (n:=6) (us:=[.int .i64 s6]) (cs:=[.int .i64 x33.Kind,.int .i64 x33.Broker,.int .i64 x33.Epoch,.int .i64 x33.Part,.int .i64 x33.Stamp,
     v47]) (o:=0) (cs':=[.int .i64 s6,.int .i64 x33.Broker,.int .i64 x33.Epoch,.int .i64 x33.Part,.int .i64 x33.Stamp,
     v47]) rfl hv43 rfl hx34 hS46 hW rfl rfl (nle rfl) rfl (fun c51 h38 hv52 hS39=>?_)
   simp only [qa,qsg,qd,qc,f29,qe,qp,qb,k7,qzu,f28,f30,zw,B0,reduceIte,reduceEqDiff]
   refine qg (SlG.ia hv52 hx34) ?_
   simp only [qo,qb,Nat.reduceAdd,Nat.zero_add,Nat.add_zero,za,zn,B0,reduceIte,reduceEqDiff]
   refine ya (n:=6) (us:=[.int .i64 (IntKind.wrap .i64 (s6+1))]) (cs:=[.int .i64 s6,.int .i64 x33.Broker,.int .i64 x33.Epoch,.int .i64 x33.Part,
     .int .i64 x33.Stamp,v47]) (o:=1) (cs':=[.int .i64 s6,.int .i64 (IntKind.wrap .i64 (s6+1)),.int .i64 x33.Epoch,.int .i64 x33.Part,.int .i64 x33.Stamp,
     v47]) rfl hv52 rfl hx34 hS39 hW rfl rfl (nle rfl) rfl (fun c55 h53 hv56 hS54=>?_)
   simp only [qa,qwx,qd,qc,qe,qp,qb,k7,q0k,f28,f30,zw,B0,reduceIte,reduceEqDiff]
   refine qg (SlG.ia hv56 hx34) ?_
   simp only [qo,qb,Nat.reduceAdd,Nat.zero_add,Nat.add_zero,za,zn,B0,reduceIte,reduceEqDiff]
   refine ya (n:=6) (us:=[.int .i64 (IntKind.wrap .i64 ((IntKind.wrap .i64 (s6+1))+1))]) (cs:=[.int .i64 s6,.int .i64 (IntKind.wrap .i64 (s6+1)),
     .int .i64 x33.Epoch,.int .i64 x33.Part,.int .i64 x33.Stamp,v47]) (o:=2) (cs':=[.int .i64 s6,.int .i64 (IntKind.wrap .i64 (s6+1)),
     .int .i64 (IntKind.wrap .i64 ((IntKind.wrap .i64 (s6+1))+1)),.int .i64 x33.Part,.int .i64 x33.Stamp,
     v47]) rfl hv56 rfl hx34 hS54 hW rfl rfl (nle rfl) rfl (fun c59 h57 hv60 hS58=>?_)
   simp only [qa,qzi,qd,qc,qe,qp,qb,k7,qvo,f28,f30,zw,B0,reduceIte,reduceEqDiff]
   refine qg (SlG.ia hv60 hx34) ?_
   simp only [qo,qb,Nat.reduceAdd,Nat.zero_add,Nat.add_zero,za,zn,B0,reduceIte,reduceEqDiff]
   refine ya (n:=6) (us:=[.int .i64 (IntKind.wrap .i64 ((IntKind.wrap .i64 ((IntKind.wrap .i64 (s6+1))+1))+1))]) (cs:=[.int .i64 s6,
     .int .i64 (IntKind.wrap .i64 (s6+1)),.int .i64 (IntKind.wrap .i64 ((IntKind.wrap .i64 (s6+1))+1)),.int .i64 x33.Part,.int .i64 x33.Stamp,
     v47]) (o:=3) (cs':=[.int .i64 s6,.int .i64 (IntKind.wrap .i64 (s6+1)),.int .i64 (IntKind.wrap .i64 ((IntKind.wrap .i64 (s6+1))+1)),
     .int .i64 (IntKind.wrap .i64 ((IntKind.wrap .i64 ((IntKind.wrap .i64 (s6+1))+1))+1)),.int .i64 x33.Stamp,
     v47]) rfl hv60 rfl hx34 hS58 hW rfl rfl (nle rfl) rfl (fun c63 h61 hv64 hS62=>?_)
   simp only [qa,qya,qd,qc,qe,qp,qb,k7,qyo,f28,f30,zw,B0,reduceIte,reduceEqDiff]
   refine qg (SlG.ia hv64 hx34) ?_
   simp only [qo,qb,Nat.reduceAdd,Nat.zero_add,Nat.add_zero,za,zn,B0,reduceIte,reduceEqDiff]
   refine ya (n:=6) (us:=[.int .i64 (IntKind.wrap .i64 ((IntKind.wrap .i64 ((IntKind.wrap .i64 ((IntKind.wrap .i64 (s6+1))+1))+1))+1))])
     (cs:=[.int .i64 s6,.int .i64 (IntKind.wrap .i64 (s6+1)),.int .i64 (IntKind.wrap .i64 ((IntKind.wrap .i64 (s6+1))+1)),
     .int .i64 (IntKind.wrap .i64 ((IntKind.wrap .i64 ((IntKind.wrap .i64 (s6+1))+1))+1)),.int .i64 x33.Stamp,v47]) (o:=4) (cs':=[.int .i64 s6,
     .int .i64 (IntKind.wrap .i64 (s6+1)),.int .i64 (IntKind.wrap .i64 ((IntKind.wrap .i64 (s6+1))+1)),
     .int .i64 (IntKind.wrap .i64 ((IntKind.wrap .i64 ((IntKind.wrap .i64 (s6+1))+1))+1)),
     .int .i64 (IntKind.wrap .i64 ((IntKind.wrap .i64 ((IntKind.wrap .i64 ((IntKind.wrap .i64 (s6+1))+1))+1))+1)),
     v47]) rfl hv64 rfl hx34 hS62 hW rfl rfl (nle rfl) rfl (fun c67 h65 hv68 hS66=>?_)
   simp only [qa,q01,qd,qc,qe,qp,qb,k7,q1d,f28,f30,zw,B0,reduceIte,reduceEqDiff]
   refine qg (SlG.ia hv68 hx34) ?_
   simp only [qo,qb,Nat.reduceAdd,Nat.zero_add,Nat.add_zero,za,qm,B0,reduceIte,reduceEqDiff]
   refine qg (v:=v47) ((SlG.ld (o:=5) hv68 rfl hx34 hS66 (nle rfl)).trans rfl) ?_
   obtain ⟨v69,hx70,hF71⟩:=ql hF35
   simp only [qe,zf,B0,reduceIte,reduceEqDiff]
   refine qa1 rfl (qb0 hW k v47 c48 x33.InStep hv49 (IntKind.wrap .i64 ((IntKind.wrap .i64 ((IntKind.wrap .i64 ((IntKind.wrap .i64 ((IntKind.wrap .i64
     (s6+1))+1))+1))+1))+1)) v69 hx70 (Sep.m1 hS66)) ?_
   rintro _ h74 ⟨c72,rfl,hv73,hS75⟩
   simp only [qe,qa,kh,qc,f30,qp,qb,k7,qn,B0,reduceIte,reduceEqDiff]
   obtain ⟨c76,hv77,hS78⟩:=SlG.cls (e':=(Command.mk s6 (IntKind.wrap .i64 (s6+1)) (IntKind.wrap .i64 ((IntKind.wrap .i64 (s6+1))+1)) (IntKind.wrap .i64
     ((IntKind.wrap .i64 ((IntKind.wrap .i64 (s6+1))+1))+1)) (IntKind.wrap .i64 ((IntKind.wrap .i64 ((IntKind.wrap .i64 ((IntKind.wrap .i64
     (s6+1))+1))+1))+1)) v69.2)) (c:=c67) (os:=c72) hv68 rfl hx34 js (Command.RI (x:=(Command.mk s6 (IntKind.wrap .i64 (s6+1)) (IntKind.wrap .i64
     ((IntKind.wrap .i64 (s6+1))+1)) (IntKind.wrap .i64 ((IntKind.wrap .i64 ((IntKind.wrap .i64 (s6+1))+1))+1)) (IntKind.wrap .i64 ((IntKind.wrap .i64
     ((IntKind.wrap .i64 ((IntKind.wrap .i64 (s6+1))+1))+1))+1)) v69.2)) hv73) (Sep.m1 hS75)
   have hx79:=ka (x':=(Command.mk s6 (IntKind.wrap .i64 (s6+1)) (IntKind.wrap .i64 ((IntKind.wrap .i64 (s6+1))+1)) (IntKind.wrap .i64 ((IntKind.wrap .i64
     ((IntKind.wrap .i64 (s6+1))+1))+1)) (IntKind.wrap .i64 ((IntKind.wrap .i64 ((IntKind.wrap .i64 ((IntKind.wrap .i64 (s6+1))+1))+1))+1)) v69.2)) hx34
   have hv80:=SlG.toN hv77
   have e81:=qh hF71
   exact hN20 _ _ _ e81.symm ⟨c76,f28,rfl,rfl,hv80,hS78⟩
  rw [iteF hc32] at hF17
  simp only [yv,yk,wb,B0,reduceIte,reduceEqDiff]
  have e82:=qh hF17
  exact hK21 _ _ _ e82.symm ⟨c9,f28,f29,f30,hv10,hS27⟩
 rintro ⟨s84,s85,s86⟩ fr89 h90 rfl ⟨c87,f92,f93,f94,hv88,hS91⟩
 dsimp only [jnO] at hk16
 dsimp only at *
 unfold qdh at hk16
 simp only [qd,qc,f93,qe,qa,qv,B0,reduceIte,reduceEqDiff]
 have he:=qh hk16
 subst he
 simp only [qw,B0,reduceIte,reduceEqDiff]
 exact ⟨c87,by first | trivial | rfl,hv88,hS91⟩
theorem qh9 {W:Nat→Bool}{h:Heap}{lo:Nat→Prop}{S0:List Obj} (hW:∀ b,
  lo b→W b=true) (k:Nat) (pv0:XV) (pc0:List Obj) (a_0:List Broker) (ph0:SlF qi 3 86 pv0 a_0 pc0) (k_1:Int) (r:Int × (List Broker))
  (hF:u4 k a_0 k_1=some r) (hS:Sep h lo (pc0++(S0))) : Ret E W 64 [pv0,.int .i64 k_1] h (fun v h'=>∃ ic0,
  v = .int .i64 r.1∧SlF qi 3 86 pv0 r.2 ic0∧Sep h' lo (ic0++(S0))):=by
 refine Ret.of (fn:=x64) rfl (Run.of ?_)
 unfold u4 at hF
 have zf0:zc [pv0,.int .i64 k_1] 0=pv0:=rfl
 have zf1:zc [pv0,.int .i64 k_1] 1 = .int .i64 k_1:=rfl
 generalize zc [pv0,.int .i64 k_1]=fr0 at zf0 zf1 ⊢
 simp only [x64,qd,qc,qe,qa,qpt,B0,reduceIte,reduceEqDiff]
 obtain ⟨oc13,hX15,hk16⟩:=jh hF
 simp only [qyy]
 refine xh (σ:=Int × Int × (List Broker)) (fun s55=>w9 s55.1 s55.2.1 s55.2.2) (fun s fr' h'=>∃ c9,
   fr' 0=pv0∧fr' 1 = .int .i64 s.1∧fr' 5 = .int .i64 s.2.1∧SlF qi 3 86 pv0 s.2.2 c9∧Sep h' lo (c9++(S0))) hX15 ⟨pc0,zf0,zf1,rfl,ph0,
   hS⟩ (fun _ _ _ h=>h) ?_ ?_
 ·rintro ⟨s6,s7,s8⟩ fr25 h26 ⟨c9,f28,f29,f30,hv10,hS27⟩ oc14 hF17 hr18 Q19 hN20 hK21 hR22 hE23
  dsimp only at *
  unfold w9 at hF17
  simp only [q24,qd,qc,f30,qe,f28,zo,qb,SlF.plen hv10,qp,yl,qa,qx,B0,reduceIte,reduceEqDiff]
  refine qr (t:=(decide (s7<(List.length s8:Int)))) (fun hc32=>?_) (fun hc32=>?_)
  ·rw [iteT hc32] at hF17
   obtain ⟨x33,hx34,hF35⟩:=ql hF17
   simp only [q8,qww,qd,jy,qv7,qc,f28,qe,f30,f29,zw,B0,reduceIte,reduceEqDiff]
   obtain ⟨b36,hb37⟩:=SlF.isrow hv10 (k8 hx34)
   refine qg (SlF.ia hv10 hb37 hx34) ?_
   simp only [qo,qb,Nat.reduceAdd,Nat.zero_add,Nat.add_zero,za,zn,B0,reduceIte,reduceEqDiff]
   refine ue (f:=qi) (x':=(Broker.mk s6 x33.Left x33.Fenced)) (o:=0) hv10 hS27 hW hb37 hx34 (fun _=>rfl) rfl rfl (nle rfl) rfl
     (fun c40 h38 hv41 hS39=>?_)
   have hx42:=ka (x':=(Broker.mk s6 x33.Left x33.Fenced)) hx34
   simp only [qa,q06,qd,qc,f29,qe,qp,qb,k7,qzw,f28,f30,zw,B0,reduceIte,reduceEqDiff]
   refine qg (SlF.ia hv41 hb37 hx42) ?_
   simp only [qo,qb,Nat.reduceAdd,Nat.zero_add,Nat.add_zero,za,zn,B0,reduceIte,reduceEqDiff]
   refine ue (f:=qi) (x':=(Broker.mk s6 (IntKind.wrap .i64 (s6+1)) x33.Fenced)) (o:=1) hv41 hS39 hW hb37 hx42 (fun _=>rfl) rfl rfl (nle rfl) rfl
     (fun c45 h43 hv46 hS44=>?_)
   rw [List.set_set] at hv46
   have hx47:=ka (x':=(Broker.mk s6 (IntKind.wrap .i64 (s6+1)) x33.Fenced)) hx34
   simp only [qa,q2g,qd,qc,qe,qp,qb,k7,qxx,f28,f30,qno (n:=3) (by decide),je,zw,B0,reduceIte,reduceEqDiff]
   refine qg (SlF.ia hv46 hb37 hx47) ?_
   simp only [qo,qb,Nat.reduceAdd,Nat.zero_add,Nat.add_zero,za,zn,B0,reduceIte,reduceEqDiff]
   refine ue (f:=qi) (x':=(Broker.mk s6 (IntKind.wrap .i64 (s6+1)) (decide ((Int.tmod (IntKind.wrap .i64 ((IntKind.wrap .i64 (s6+1))+1)) 3)=0))))
     (o:=2) hv46 hS44 hW hb37 hx47 (fun _=>rfl) rfl rfl (nle rfl) rfl (fun c50 h48 hv51 hS49=>?_)
   rw [List.set_set] at hv51
   have hx52:=ka (x':=(Broker.mk s6 (IntKind.wrap .i64 (s6+1)) (decide ((Int.tmod (IntKind.wrap .i64 ((IntKind.wrap .i64 (s6+1))+1)) 3)=0)))) hx34
   simp only [qa,qc,qe,qp,qb,k7,kh,f30,qn,B0,reduceIte,reduceEqDiff]
   have e53:=qh hF35
   exact hN20 _ _ _ e53.symm ⟨c50,f28,rfl,rfl,hv51,hS49⟩
  rw [iteF hc32] at hF17
  simp only [yv,yk,wb,B0,reduceIte,reduceEqDiff]
  have e54:=qh hF17
  exact hK21 _ _ _ e54.symm ⟨c9,f28,f29,f30,hv10,hS27⟩
 rintro ⟨s56,s57,s58⟩ fr61 h62 rfl ⟨c59,f64,f65,f66,hv60,hS63⟩
 dsimp only [jnO] at hk16
 dsimp only at *
 unfold qd2 at hk16
 simp only [qd,qc,f65,qe,qa,qv,B0,reduceIte,reduceEqDiff]
 have he:=qh hk16
 subst he
 simp only [qw,B0,reduceIte,reduceEqDiff]
 exact ⟨c59,by first | trivial | rfl,hv60,hS63⟩
theorem qgh {W:Nat→Bool}{h:Heap}{lo:Nat→Prop}{S0:List Obj} (hW:∀ b,
  lo b→W b=true) (k:Nat) (pv0:XV) (pc0:List Obj) (a_0:List Partition) (ph0:SlN Partition.R 5 39 pv0 a_0 pc0) (k_1:Int) (r:Int × (List Partition))
  (hF:w6 k a_0 k_1=some r) (hS:Sep h lo (pc0++(S0))) : Ret E W 65 [pv0,.int .i64 k_1] h (fun v h'=>∃ ic0,
  v = .int .i64 r.1∧SlN Partition.R 5 39 pv0 r.2 ic0∧Sep h' lo (ic0++(S0))):=by
 refine Ret.of (fn:=x65) rfl (Run.of ?_)
 unfold w6 at hF
 have zf0:zc [pv0,.int .i64 k_1] 0=pv0:=rfl
 have zf1:zc [pv0,.int .i64 k_1] 1 = .int .i64 k_1:=rfl
 generalize zc [pv0,.int .i64 k_1]=fr0 at zf0 zf1 ⊢
 simp only [x65,qd,qc,qe,qa,qs9,B0,reduceIte,reduceEqDiff]
 obtain ⟨oc13,hX15,hk16⟩:=jh hF
 simp only [qqp]
 refine xh (σ:=Int × Int × (List Partition)) (fun s86=>yy k s86.1 s86.2.1 s86.2.2) (fun s fr' h'=>∃ c9,
   fr' 0=pv0∧fr' 1 = .int .i64 s.1∧fr' 5 = .int .i64 s.2.1∧SlN Partition.R 5 39 pv0 s.2.2 c9∧Sep h' lo (c9++(S0))) hX15 ⟨pc0,zf0,zf1,rfl,ph0,
   hS⟩ (fun _ _ _ h=>h) ?_ ?_
 ·rintro ⟨s6,s7,s8⟩ fr25 h26 ⟨c9,f28,f29,f30,hv10,hS27⟩ oc14 hF17 hr18 Q19 hN20 hK21 hR22 hE23
  dsimp only at *
  unfold yy at hF17
  simp only [q3x,qd,qc,f30,qe,f28,zo,qb,SlN.len hv10,qp,yl,qa,qx,B0,reduceIte,reduceEqDiff]
  refine qr (t:=(decide (s7<(List.length s8:Int)))) (fun hc32=>?_) (fun hc32=>?_)
  ·rw [iteT hc32] at hF17
   obtain ⟨x33,hx34,hF35⟩:=ql hF17
   simp only [q8,qwh,qd,jy,q0b,qc,f28,qe,f30,zw,B0,reduceIte,reduceEqDiff]
   obtain ⟨b36,hb37⟩:=SlN.isrow hv10 (k8 hx34)
   refine qg (SlN.ia hv10 hb37 hx34) ?_
   obtain ⟨c38,cs39,os40,hv41,hR42,hS43⟩:=SlG.opn (SlN.toG hv10 hb37 Partition.RO.len) hx34 js Partition.RO.len hS27
   obtain ⟨v45,c46,v49,c50,hv47,hv51,rfl,rfl⟩:=hR42
   have hS44:=Sep.no2 hS43
   simp only [qo,qb,Nat.reduceAdd,Nat.zero_add,Nat.add_zero,za,qm,B0,reduceIte,reduceEqDiff]
   refine qg (v:=v45) ((SlG.ld (o:=0) hv41 rfl hx34 hS44 (nle rfl)).trans rfl) ?_
   obtain ⟨v53,hx54,hF55⟩:=ql hF35
   simp only [f29,qe,zf,B0,reduceIte,reduceEqDiff]
   refine qa1 rfl (qb0 hW k v45 c46 x33.Homes hv47 s6 v53 hx54 (Sep.m1 hS44)) ?_
   rintro _ h58 ⟨c56,rfl,hv57,hS59⟩
   simp only [qe,qa,q2e,qd,qc,f28,f30,zw,B0,reduceIte,reduceEqDiff]
   refine qg (SlG.ia hv41 hx34) ?_
   simp only [qo,qb,Nat.reduceAdd,Nat.zero_add,Nat.add_zero,za,qm,B0,reduceIte,reduceEqDiff]
   refine qg (v:=v49) ((SlG.ld (o:=1) hv41 rfl hx34 (Sep.m1 hS59) (nle rfl)).trans rfl) ?_
   obtain ⟨v60,hx61,hF62⟩:=ql hF55
   simp only [qe,zf,B0,reduceIte,reduceEqDiff]
   refine qa1 rfl (qb0 hW k v49 c50 x33.InStep hv51 v53.1 v60 hx61 (Sep.m2 hS59)) ?_
   rintro _ h65 ⟨c63,rfl,hv64,hS66⟩
   simp only [qe,qa,q3n,qd,qc,f28,f30,zw,B0,reduceIte,reduceEqDiff]
   refine qg (SlG.ia hv41 hx34) ?_
   simp only [qo,qb,Nat.reduceAdd,Nat.zero_add,Nat.add_zero,za,zn,B0,reduceIte,reduceEqDiff]
   refine ya (n:=5) (us:=[.int .i64 v60.1]) (cs:=[v45,v49,.int .i64 x33.Leader,.int .i64 x33.Epoch,.int .i64 x33.Stamp]) (o:=2) (cs':=[v45,v49,
     .int .i64 v60.1,.int .i64 x33.Epoch,.int .i64 x33.Stamp]) rfl hv41 rfl hx34 (Sep.m2 hS66) hW rfl rfl (nle rfl) rfl (fun c69 h67 hv70 hS68=>?_)
   simp only [qa,qzp,qd,qc,qe,qp,qb,k7,qxl,f28,f30,zw,B0,reduceIte,reduceEqDiff]
   refine qg (SlG.ia hv70 hx34) ?_
   simp only [qo,qb,Nat.reduceAdd,Nat.zero_add,Nat.add_zero,za,zn,B0,reduceIte,reduceEqDiff]
   refine ya (n:=5) (us:=[.int .i64 (IntKind.wrap .i64 (v60.1+1))]) (cs:=[v45,v49,.int .i64 v60.1,.int .i64 x33.Epoch,
     .int .i64 x33.Stamp]) (o:=3) (cs':=[v45,v49,.int .i64 v60.1,.int .i64 (IntKind.wrap .i64 (v60.1+1)),
     .int .i64 x33.Stamp]) rfl hv70 rfl hx34 hS68 hW rfl rfl (nle rfl) rfl (fun c73 h71 hv74 hS72=>?_)
   simp only [qa,qwy,qd,qc,qe,qp,qb,k7,qyx,f28,f30,zw,B0,reduceIte,reduceEqDiff]
   refine qg (SlG.ia hv74 hx34) ?_
   simp only [qo,qb,Nat.reduceAdd,Nat.zero_add,Nat.add_zero,za,zn,B0,reduceIte,reduceEqDiff]
   refine ya (n:=5) (us:=[.int .i64 (IntKind.wrap .i64 ((IntKind.wrap .i64 (v60.1+1))+1))]) (cs:=[v45,v49,.int .i64 v60.1,
     .int .i64 (IntKind.wrap .i64 (v60.1+1)),.int .i64 x33.Stamp]) (o:=4) (cs':=[v45,v49,.int .i64 v60.1,.int .i64 (IntKind.wrap .i64 (v60.1+1)),
     .int .i64 (IntKind.wrap .i64 ((IntKind.wrap .i64 (v60.1+1))+1))]) rfl hv74 rfl hx34 hS72 hW rfl rfl (nle rfl) rfl (fun c77 h75 hv78 hS76=>?_)
   simp only [qa,qc,qe,qp,qb,k7,kh,f30,qn,B0,reduceIte,reduceEqDiff]
   obtain ⟨c79,hv80,hS81⟩:=SlG.cls (e':=(Partition.mk v53.2 v60.2 v60.1 (IntKind.wrap .i64 (v60.1+1)) (IntKind.wrap .i64 ((IntKind.wrap .i64 (v60.1+1))+1))))
     (c:=c77) (os:=c56++(c63)) hv78 rfl hx34 js (Partition.RI (x:=(Partition.mk v53.2 v60.2 v60.1 (IntKind.wrap .i64 (v60.1+1)) (IntKind.wrap .i64
     ((IntKind.wrap .i64 (v60.1+1))+1)))) hv57 hv64) (Sep.ni2 (c1:=c56) (c2:=c63) (Sep.m2 (Sep.m2 (Sep.m1 hS76))))
   have hx82:=ka (x':=(Partition.mk v53.2 v60.2 v60.1 (IntKind.wrap .i64 (v60.1+1)) (IntKind.wrap .i64 ((IntKind.wrap .i64 (v60.1+1))+1)))) hx34
   have hv83:=SlG.toN hv80
   have e84:=qh hF62
   exact hN20 _ _ _ e84.symm ⟨c79,f28,rfl,rfl,hv83,hS81⟩
  rw [iteF hc32] at hF17
  simp only [yv,yk,wb,B0,reduceIte,reduceEqDiff]
  have e85:=qh hF17
  exact hK21 _ _ _ e85.symm ⟨c9,f28,f29,f30,hv10,hS27⟩
 rintro ⟨s87,s88,s89⟩ fr92 h93 rfl ⟨c90,f95,f96,f97,hv91,hS94⟩
 dsimp only [jnO] at hk16
 dsimp only at *
 unfold qcx at hk16
 simp only [qd,qc,f96,qe,qa,qv,B0,reduceIte,reduceEqDiff]
 have he:=qh hk16
 subst he
 simp only [qw,B0,reduceIte,reduceEqDiff]
 exact ⟨c90,by first | trivial | rfl,hv91,hS94⟩
theorem qhw {W:Nat→Bool}{h:Heap}{lo:Nat→Prop}{S0:List Obj} (hW:∀ b,
  lo b→W b=true) (k:Nat) (a_0:Control) (pv0_0:XV) (pc0_0:List Obj) (ph0_0:SlF qi 3 86 pv0_0 a_0.Brokers pc0_0) (pv0_1:XV) (pc0_1:List Obj)
  (ph0_1:SlN Partition.R 5 39 pv0_1 a_0.Parts pc0_1) (k_1:Int) (r:Int × Control) (hF:uw k a_0 k_1=some r) (hS:Sep h lo (pc0_0++(pc0_1 ++
  (S0)))) : Ret E W 35 [.agg [pv0_0,pv0_1,.int .i64 a_0.Next],.int .i64 k_1] h (fun v h'=>∃ ic0_0 ic0_1,
  v = .int .i64 r.1∧SlF qi 3 86 pv0_0 r.2.Brokers ic0_0∧SlN Partition.R 5 39 pv0_1 r.2.Parts ic0_1∧Sep h' lo (ic0_0++(ic0_1++(S0)))):=by
 refine Ret.of (fn:=x35) rfl (Run.of ?_)
 unfold uw at hF
 have zf0:zc [.agg [pv0_0,pv0_1,.int .i64 a_0.Next],.int .i64 k_1] 0 = .agg [pv0_0,pv0_1,.int .i64 a_0.Next]:=rfl
 have zf1:zc [.agg [pv0_0,pv0_1,.int .i64 a_0.Next],.int .i64 k_1] 1 = .int .i64 k_1:=rfl
 generalize zc [.agg [pv0_0,pv0_1,.int .i64 a_0.Next],.int .i64 k_1]=fr0 at zf0 zf1 ⊢
 simp only [x35,qd,qc,jm,zf0,B0,reduceIte,reduceEqDiff]
 refine z8 (cs:=[pv0_0,pv0_1,.int .i64 a_0.Next]) hS rfl rfl (qt (SlF.one ph0_0) (qt (SlN.one ph0_1) (qt rfl zr))) (fun b1 h2 hS3=>?_)
 simp only [qe,qa,B0,reduceIte,reduceEqDiff]
 refine zu hS3 hW (by simp only [B0,reduceIte,reduceEqDiff]) (fun h5 hS6=>?_)
 simp only [zx,qym,qd,qc,qo,qb,Nat.reduceAdd,Nat.zero_add,Nat.add_zero,qq,qm,B0,reduceIte,reduceEqDiff]
 refine qg (v:=pv0_0) rfl ?_
 obtain ⟨v7,hx8,hF9⟩:=ql hF
 simp only [zf1,qe,zf,B0,reduceIte,reduceEqDiff]
 refine qa1 rfl (qh9 hW k pv0_0 pc0_0 a_0.Brokers ph0_0 k_1 v7 hx8 hS6) ?_
 rintro _ h12 ⟨c10,rfl,hv11,hS13⟩
 simp only [qe,qa,qwm,qd,qc,qo,qb,Nat.reduceAdd,Nat.zero_add,Nat.add_zero,qq,qm,B0,reduceIte,reduceEqDiff]
 refine qg (v:=pv0_1) rfl ?_
 obtain ⟨v14,hx15,hF16⟩:=ql hF9
 simp only [qe,zf,B0,reduceIte,reduceEqDiff]
 refine qa1 rfl (qgh hW k pv0_1 pc0_1 a_0.Parts ph0_1 v7.1 v14 hx15 (Sep.m1 hS13)) ?_
 rintro _ h19 ⟨c17,rfl,hv18,hS20⟩
 simp only [qe,qa,qd,qc,qv,B0,reduceIte,reduceEqDiff]
 have he:=qh hF16
 subst he
 simp only [qw,B0,reduceIte,reduceEqDiff]
 exact ⟨c10,c17,by first | trivial | rfl,hv11,hv18,(Sep.m1 hS20)⟩
theorem qh6 {W:Nat→Bool}{h:Heap} (hW:∀ b,
  (geL h.length) b→W b=true) (k:Nat) (a_0:List Broker) (k_1:Int) (r:Int) (hF:uz k a_0 k_1=some r) : Ret E W 66 [lst qi a_0,
  .int .i64 k_1] h (fun v h'=>cut h.length h' E.sz false 9 v=some (.int .i64 r)):=by
 refine Ret.of (fn:=x66) rfl (Run.of ?_)
 unfold uz at hF
 have zf0:zc [lst qi a_0,.int .i64 k_1] 0=lst qi a_0:=rfl
 have zf1:zc [lst qi a_0,.int .i64 k_1] 1 = .int .i64 k_1:=rfl
 generalize zc [lst qi a_0,.int .i64 k_1]=fr0 at zf0 zf1 ⊢
 have hS:Sep h (geL h.length) []:=Sep.nil h
 simp only [x66,qd,qc,qe,qa,qsj,B0,reduceIte,reduceEqDiff]
 obtain ⟨oc7,hX9,hk10⟩:=jh hF
 simp only [qx9]
 refine xh (σ:=Int × Int) (fun s50=>w7 a_0 s50.1 s50.2)
   (fun s fr' h'=>fr' 0=lst qi a_0∧fr' 1 = .int .i64 s.1∧fr' 5 = .int .i64 s.2∧Sep h' (geL h.length) ([])) hX9 ⟨zf0,zf1,rfl,hS⟩ (fun _ _ _ h=>h) ?_ ?_
 ·rintro ⟨s3,s4⟩ fr19 h20 ⟨f22,f23,f24,hS21⟩ oc8 hF11 hr12 Q13 hN14 hK15 hR16 hE17
  dsimp only at *
  unfold w7 at hF11
  simp only [q32,qd,qc,f24,qe,f22,zo,qb,zt,qp,yl,qa,qx,B0,reduceIte,reduceEqDiff]
  refine qr (t:=(decide (s4<(List.length a_0:Int)))) (fun hc26=>?_) (fun hc26=>?_)
  ·rw [iteT hc26] at hF11
   obtain ⟨x27,hx28,hF29⟩:=ql hF11
   simp only [q8,q3v,qd,jy,q3i,qc,f22,qe,f24,zw,B0,reduceIte,reduceEqDiff]
   refine qg (v := .ref (qi x27) 0) (kf hx28 rfl) ?_
   simp only [qo,qb,Nat.reduceAdd,Nat.zero_add,Nat.add_zero,qq,qm,B0,reduceIte,reduceEqDiff]
   refine qg (v := .int .i64 x27.Epoch) rfl ?_
   simp only [f23,qe,qp,qb,kx,qa,qx,B0,reduceIte,reduceEqDiff]
   refine qr (t:=(decide (x27.Epoch≠s3))) (fun hc30=>?_) (fun hc30=>?_)
   ·rw [iteT hc30] at hF29
    simp only [qd,qc,qe,qa,qv,B0,reduceIte,reduceEqDiff]
    have e31:=qh hF29
    subst e31
    have ho32:=hr12 _ rfl
    have hk33:=hk10
    rw [ho32] at hk33
    dsimp only [jnO] at hk33
    apply hR16
    have he:=qh hk33
    subst he
    simp only [qw,B0,reduceIte,reduceEqDiff]
    exact rfl
   rw [iteF hc30] at hF29
   obtain ⟨x34,hx35,hF36⟩:=ql hF29
   simp only [q8,q0n,qd,qc,f23,qe,qp,qb,k7,qa,q04,f22,f24,zw,B0,reduceIte,reduceEqDiff]
   refine qg (v := .ref (qi x34) 0) (kf hx35 rfl) ?_
   simp only [qo,qb,Nat.reduceAdd,Nat.zero_add,Nat.add_zero,qq,qm,B0,reduceIte,reduceEqDiff]
   refine qg (v := .int .i64 x34.Left) rfl ?_
   simp only [qe,qp,qb,kx,qa,qx,B0,reduceIte,reduceEqDiff]
   refine qr (t:=(decide (x34.Left≠(IntKind.wrap .i64 (s3+1))))) (fun hc37=>?_) (fun hc37=>?_)
   ·rw [iteT hc37] at hF36
    simp only [qd,qc,qe,qa,qv,B0,reduceIte,reduceEqDiff]
    have e38:=qh hF36
    subst e38
    have ho39:=hr12 _ rfl
    have hk40:=hk10
    rw [ho39] at hk40
    dsimp only [jnO] at hk40
    apply hR16
    have he:=qh hk40
    subst he
    simp only [qw,B0,reduceIte,reduceEqDiff]
    exact rfl
   rw [iteF hc37] at hF36
   obtain ⟨x41,hx42,hF43⟩:=ql hF36
   simp only [q8,qz2,qd,qc,qe,qp,qb,k7,qa,q3m,f22,f24,zw,B0,reduceIte,reduceEqDiff]
   refine qg (v := .ref (qi x41) 0) (kf hx42 rfl) ?_
   simp only [qo,qb,Nat.reduceAdd,Nat.zero_add,Nat.add_zero,qq,qm,B0,reduceIte,reduceEqDiff]
   refine qg (v := .bool x41.Fenced) rfl ?_
   simp only [qe,qp,qb,qno (n:=3) (by decide),je,qfe,qgj,qa,qx,B0,reduceIte,reduceEqDiff]
   refine qr (t:=(!(x41.Fenced == (decide ((Int.tmod (IntKind.wrap .i64 ((IntKind.wrap .i64 (s3+1))+1)) 3)=0))))) (fun hc44=>?_) (fun hc44=>?_)
   ·rw [iteT hc44] at hF43
    simp only [qd,qc,qe,qa,qv,B0,reduceIte,reduceEqDiff]
    have e45:=qh hF43
    subst e45
    have ho46:=hr12 _ rfl
    have hk47:=hk10
    rw [ho46] at hk47
    dsimp only [jnO] at hk47
    apply hR16
    have he:=qh hk47
    subst he
    simp only [qw,B0,reduceIte,reduceEqDiff]
    exact rfl
   rw [iteF hc44] at hF43
   simp only [q8,qc,qe,qp,qb,k7,qa,kh,f24,qn,B0,reduceIte,reduceEqDiff]
   have e48:=qh hF43
   exact hN14 _ _ _ e48.symm ⟨f22,rfl,rfl,hS21⟩
  rw [iteF hc26] at hF11
  simp only [yv,yk,wb,B0,reduceIte,reduceEqDiff]
  have e49:=qh hF11
  exact hK15 _ _ _ e49.symm ⟨f22,f23,f24,hS21⟩
 rintro ⟨s51,s52⟩ fr53 h54 rfl ⟨f56,f57,f58,hS55⟩
 dsimp only [jnO] at hk10
 dsimp only at *
 unfold qdy at hk10
 simp only [qd,qc,f57,qe,qa,qv,B0,reduceIte,reduceEqDiff]
 have he:=qh hk10
 subst he
 simp only [qw,B0,reduceIte,reduceEqDiff]
 exact rfl
theorem qby {W:Nat→Bool}{h:Heap} (hW:∀ b,
  (geL h.length) b→W b=true) (k:Nat) (a_0:List Int) (k_1:Int) (r:Int) (hF:wt k a_0 k_1=some r) : Ret E W 38 [lst cI a_0,
  .int .i64 k_1] h (fun v h'=>cut h.length h' E.sz false 9 v=some (.int .i64 r)):=by
 refine Ret.of (fn:=x38) rfl (Run.of ?_)
 unfold wt at hF
 have zf0:zc [lst cI a_0,.int .i64 k_1] 0=lst cI a_0:=rfl
 have zf1:zc [lst cI a_0,.int .i64 k_1] 1 = .int .i64 k_1:=rfl
 generalize zc [lst cI a_0,.int .i64 k_1]=fr0 at zf0 zf1 ⊢
 have hS:Sep h (geL h.length) []:=Sep.nil h
 simp only [x38,qd,qc,qe,qa,qvg,B0,reduceIte,reduceEqDiff]
 obtain ⟨oc7,hX9,hk10⟩:=jh hF
 simp only [q37]
 refine xh (σ:=Int × Int) (fun s36=>u0 a_0 s36.1 s36.2) (fun s fr' h'=>fr' 0=lst cI a_0∧fr' 1 = .int .i64 s.1∧fr' 5 = .int .i64 s.2∧Sep h'
   (geL h.length) ([])) hX9 ⟨zf0,zf1,rfl,hS⟩ (fun _ _ _ h=>h) ?_ ?_
 ·rintro ⟨s3,s4⟩ fr19 h20 ⟨f22,f23,f24,hS21⟩ oc8 hF11 hr12 Q13 hN14 hK15 hR16 hE17
  dsimp only at *
  unfold u0 at hF11
  simp only [q2n,qd,qc,f24,qe,f22,zo,qb,zt,qp,yl,qa,qx,B0,reduceIte,reduceEqDiff]
  refine qr (t:=(decide (s4<(List.length a_0:Int)))) (fun hc26=>?_) (fun hc26=>?_)
  ·rw [iteT hc26] at hF11
   obtain ⟨x27,hx28,hF29⟩:=ql hF11
   simp only [q8,qze,qd,jy,qw8,qc,f22,qe,f24,zw,B0,reduceIte,reduceEqDiff]
   refine qg (v := .ref (cI x27) 0) (kf hx28 rfl) ?_
   simp only [qm,B0,reduceIte,reduceEqDiff]
   refine qg (v := .int .i64 x27) rfl ?_
   simp only [f23,qe,qp,qb,kx,qa,qx,B0,reduceIte,reduceEqDiff]
   refine qr (t:=(decide (x27≠s3))) (fun hc30=>?_) (fun hc30=>?_)
   ·rw [iteT hc30] at hF29
    simp only [qd,qc,qe,qa,qv,B0,reduceIte,reduceEqDiff]
    have e31:=qh hF29
    subst e31
    have ho32:=hr12 _ rfl
    have hk33:=hk10
    rw [ho32] at hk33
    dsimp only [jnO] at hk33
    apply hR16
    have he:=qh hk33
    subst he
    simp only [qw,B0,reduceIte,reduceEqDiff]
    exact rfl
   rw [iteF hc30] at hF29
   simp only [q8,qc,f23,qe,qp,qb,k7,qa,kh,f24,qn,B0,reduceIte,reduceEqDiff]
   have e34:=qh hF29
   exact hN14 _ _ _ e34.symm ⟨f22,rfl,rfl,hS21⟩
  rw [iteF hc26] at hF11
  simp only [yv,yk,wb,B0,reduceIte,reduceEqDiff]
  have e35:=qh hF11
  exact hK15 _ _ _ e35.symm ⟨f22,f23,f24,hS21⟩
 rintro ⟨s37,s38⟩ fr39 h40 rfl ⟨f42,f43,f44,hS41⟩
 dsimp only [jnO] at hk10
 dsimp only at *
 unfold qf0 at hk10
 simp only [qd,qc,f43,qe,qa,qv,B0,reduceIte,reduceEqDiff]
 have he:=qh hk10
 subst he
 simp only [qw,B0,reduceIte,reduceEqDiff]
 exact rfl
theorem qgp {W:Nat→Bool}{h:Heap} (hW:∀ b,
  (geL h.length) b→W b=true) (k:Nat) (a_0:List Partition) (k_1:Int) (r:Int) (hF:wx k a_0 k_1=some r) : Ret E W 67 [lst qj a_0,
  .int .i64 k_1] h (fun v h'=>cut h.length h' E.sz false 9 v=some (.int .i64 r)):=by
 refine Ret.of (fn:=x67) rfl (Run.of ?_)
 unfold wx at hF
 have zf0:zc [lst qj a_0,.int .i64 k_1] 0=lst qj a_0:=rfl
 have zf1:zc [lst qj a_0,.int .i64 k_1] 1 = .int .i64 k_1:=rfl
 generalize zc [lst qj a_0,.int .i64 k_1]=fr0 at zf0 zf1 ⊢
 have hS:Sep h (geL h.length) []:=Sep.nil h
 simp only [x67,qd,qc,qe,qa,qo6,B0,reduceIte,reduceEqDiff]
 obtain ⟨oc7,hX9,hk10⟩:=jh hF
 simp only [qr2]
 refine xh (σ:=Int × Int) (fun s70=>yz k a_0 s70.1 s70.2)
   (fun s fr' h'=>fr' 0=lst qj a_0∧fr' 1 = .int .i64 s.1∧fr' 5 = .int .i64 s.2∧Sep h' (geL h.length) ([])) hX9 ⟨zf0,zf1,rfl,
   hS⟩ (fun _ _ _ h=>h) ?_ ?_
 ·rintro ⟨s3,s4⟩ fr19 h20 ⟨f22,f23,f24,hS21⟩ oc8 hF11 hr12 Q13 hN14 hK15 hR16 hE17
  dsimp only at *
  unfold yz at hF11
  simp only [qrq,qd,qc,f24,qe,f22,zo,qb,zt,qp,yl,qa,qx,B0,reduceIte,reduceEqDiff]
  refine qr (t:=(decide (s4<(List.length a_0:Int)))) (fun hc26=>?_) (fun hc26=>?_)
  ·rw [iteT hc26] at hF11
   obtain ⟨x27,hx28,hF29⟩:=ql hF11
   simp only [q8,qpq,qd,jy,q28,qc,f22,qe,f24,zw,B0,reduceIte,reduceEqDiff]
   refine qg (v := .ref (qj x27) 0) (kf hx28 rfl) ?_
   simp only [qo,qb,Nat.reduceAdd,Nat.zero_add,Nat.add_zero,qq,qm,B0,reduceIte,reduceEqDiff]
   refine qg (v:=lst cI x27.Homes) rfl ?_
   obtain ⟨v30,hx31,hF32⟩:=ql hF29
   simp only [f23,qe,zf,B0,reduceIte,reduceEqDiff]
   refine ja rfl (qk zm (qk qs zg)) (qby (fun b hb=>decide_eq_true hb) k x27.Homes s3 v30 hx31) ?_
   simp only [qe,qa,q3j,qd,qc,qp,qb,yl,qx,B0,reduceIte,reduceEqDiff]
   refine qr (t:=(decide (v30<0))) (fun hc33=>?_) (fun hc33=>?_)
   ·rw [iteT hc33] at hF32
    simp only [qd,qc,qe,qa,qv,B0,reduceIte,reduceEqDiff]
    have e34:=qh hF32
    subst e34
    have ho35:=hr12 _ rfl
    have hk36:=hk10
    rw [ho35] at hk36
    dsimp only [jnO] at hk36
    apply hR16
    have he:=qh hk36
    subst he
    simp only [qw,B0,reduceIte,reduceEqDiff]
    exact rfl
   rw [iteF hc33] at hF32
   obtain ⟨x37,hx38,hF39⟩:=ql hF32
   simp only [q8,qxn,qd,qc,f22,qe,f24,zw,B0,reduceIte,reduceEqDiff]
   refine qg (v := .ref (qj x37) 0) (kf hx38 rfl) ?_
   simp only [qo,qb,Nat.reduceAdd,Nat.zero_add,Nat.add_zero,qq,qm,B0,reduceIte,reduceEqDiff]
   refine qg (v:=lst cI x37.InStep) rfl ?_
   obtain ⟨v40,hx41,hF42⟩:=ql hF39
   simp only [qe,zf,B0,reduceIte,reduceEqDiff]
   refine ja rfl (qk zm (qk qs zg)) (qby (fun b hb=>decide_eq_true hb) k x37.InStep v30 v40 hx41) ?_
   simp only [qe,qa,qz1,qd,qc,qp,qb,yl,qx,B0,reduceIte,reduceEqDiff]
   refine qr (t:=(decide (v40<0))) (fun hc43=>?_) (fun hc43=>?_)
   ·rw [iteT hc43] at hF42
    simp only [qd,qc,qe,qa,qv,B0,reduceIte,reduceEqDiff]
    have e44:=qh hF42
    subst e44
    have ho45:=hr12 _ rfl
    have hk46:=hk10
    rw [ho45] at hk46
    dsimp only [jnO] at hk46
    apply hR16
    have he:=qh hk46
    subst he
    simp only [qw,B0,reduceIte,reduceEqDiff]
    exact rfl
   rw [iteF hc43] at hF42
   obtain ⟨x47,hx48,hF49⟩:=ql hF42
   simp only [q8,qwv,qd,qc,f22,qe,f24,zw,B0,reduceIte,reduceEqDiff]
   refine qg (v := .ref (qj x47) 0) (kf hx48 rfl) ?_
   simp only [qo,qb,Nat.reduceAdd,Nat.zero_add,Nat.add_zero,qq,qm,B0,reduceIte,reduceEqDiff]
   refine qg (v := .int .i64 x47.Leader) rfl ?_
   simp only [qe,qp,qb,kx,qa,qx,B0,reduceIte,reduceEqDiff]
   refine qr (t:=(decide (x47.Leader≠v40))) (fun hc50=>?_) (fun hc50=>?_)
   ·rw [iteT hc50] at hF49
    simp only [qd,qc,qe,qa,qv,B0,reduceIte,reduceEqDiff]
    have e51:=qh hF49
    subst e51
    have ho52:=hr12 _ rfl
    have hk53:=hk10
    rw [ho52] at hk53
    dsimp only [jnO] at hk53
    apply hR16
    have he:=qh hk53
    subst he
    simp only [qw,B0,reduceIte,reduceEqDiff]
    exact rfl
   rw [iteF hc50] at hF49
   obtain ⟨x54,hx55,hF56⟩:=ql hF49
   simp only [q8,q3t,qd,qc,qe,qp,qb,k7,qa,qz5,f22,f24,zw,B0,reduceIte,reduceEqDiff]
   refine qg (v := .ref (qj x54) 0) (kf hx55 rfl) ?_
   simp only [qo,qb,Nat.reduceAdd,Nat.zero_add,Nat.add_zero,qq,qm,B0,reduceIte,reduceEqDiff]
   refine qg (v := .int .i64 x54.Epoch) rfl ?_
   simp only [qe,qp,qb,kx,qa,qx,B0,reduceIte,reduceEqDiff]
   refine qr (t:=(decide (x54.Epoch≠(IntKind.wrap .i64 (v40+1))))) (fun hc57=>?_) (fun hc57=>?_)
   ·rw [iteT hc57] at hF56
    simp only [qd,qc,qe,qa,qv,B0,reduceIte,reduceEqDiff]
    have e58:=qh hF56
    subst e58
    have ho59:=hr12 _ rfl
    have hk60:=hk10
    rw [ho59] at hk60
    dsimp only [jnO] at hk60
    apply hR16
    have he:=qh hk60
    subst he
    simp only [qw,B0,reduceIte,reduceEqDiff]
    exact rfl
   rw [iteF hc57] at hF56
   obtain ⟨x61,hx62,hF63⟩:=ql hF56
   simp only [q8,q3k,qd,qc,qe,qp,qb,k7,qa,qw3,f22,f24,zw,B0,reduceIte,reduceEqDiff]
   refine qg (v := .ref (qj x61) 0) (kf hx62 rfl) ?_
   simp only [qo,qb,Nat.reduceAdd,Nat.zero_add,Nat.add_zero,qq,qm,B0,reduceIte,reduceEqDiff]
   refine qg (v := .int .i64 x61.Stamp) rfl ?_
   simp only [qe,qp,qb,kx,qa,qx,B0,reduceIte,reduceEqDiff]
   refine qr (t:=(decide (x61.Stamp≠(IntKind.wrap .i64 ((IntKind.wrap .i64 (v40+1))+1))))) (fun hc64=>?_) (fun hc64=>?_)
   ·rw [iteT hc64] at hF63
    simp only [qd,qc,qe,qa,qv,B0,reduceIte,reduceEqDiff]
    have e65:=qh hF63
    subst e65
    have ho66:=hr12 _ rfl
    have hk67:=hk10
    rw [ho66] at hk67
    dsimp only [jnO] at hk67
    apply hR16
    have he:=qh hk67
    subst he
    simp only [qw,B0,reduceIte,reduceEqDiff]
    exact rfl
   rw [iteF hc64] at hF63
   simp only [q8,qc,qe,qp,qb,k7,qa,kh,f24,qn,B0,reduceIte,reduceEqDiff]
   have e68:=qh hF63
   exact hN14 _ _ _ e68.symm ⟨f22,rfl,rfl,hS21⟩
  rw [iteF hc26] at hF11
  simp only [yv,yk,wb,B0,reduceIte,reduceEqDiff]
  have e69:=qh hF11
  exact hK15 _ _ _ e69.symm ⟨f22,f23,f24,hS21⟩
 rintro ⟨s71,s72⟩ fr73 h74 rfl ⟨f76,f77,f78,hS75⟩
 dsimp only [jnO] at hk10
 dsimp only at *
 unfold qcv at hk10
 simp only [qd,qc,f77,qe,qa,qv,B0,reduceIte,reduceEqDiff]
 have he:=qh hk10
 subst he
 simp only [qw,B0,reduceIte,reduceEqDiff]
 exact rfl
theorem qeo {W:Nat→Bool}{h:Heap} (hW:∀ b,
  (geL h.length) b→W b=true) (k:Nat) (a_0:Control) (k_1:Int) (r:Int) (hF:xd k a_0 k_1=some r) : Ret E W 37 [.agg [lst qi a_0.Brokers,
  lst qj a_0.Parts,.int .i64 a_0.Next],.int .i64 k_1] h (fun v h'=>cut h.length h' E.sz false 9 v=some (.int .i64 r)):=by
 refine Ret.of (fn:=x37) rfl (Run.of ?_)
 unfold xd at hF
 have zf0:zc [.agg [lst qi a_0.Brokers,lst qj a_0.Parts,.int .i64 a_0.Next],.int .i64 k_1] 0 = .agg [lst qi a_0.Brokers,
   lst qj a_0.Parts,.int .i64 a_0.Next]:=rfl
 have zf1:zc [.agg [lst qi a_0.Brokers,lst qj a_0.Parts,.int .i64 a_0.Next],.int .i64 k_1] 1 = .int .i64 k_1:=rfl
 generalize zc [.agg [lst qi a_0.Brokers,lst qj a_0.Parts,.int .i64 a_0.Next],.int .i64 k_1]=fr0 at zf0 zf1 ⊢
 have hS:Sep h (geL h.length) []:=Sep.nil h
 simp only [x37,qd,qc,jm,zf0,B0,reduceIte,reduceEqDiff]
 refine z8 (cs:=[lst qi a_0.Brokers,lst qj a_0.Parts,.int .i64 a_0.Next]) hS rfl rfl rfl (fun b1 h2 hS3=>?_)
 simp only [qe,qa,B0,reduceIte,reduceEqDiff]
 refine zu hS3 hW (by simp only [B0,reduceIte,reduceEqDiff]) (fun h5 hS6=>?_)
 simp only [zx,qx4,qd,qc,qo,qb,Nat.reduceAdd,Nat.zero_add,Nat.add_zero,qq,qm,B0,reduceIte,reduceEqDiff]
 refine qg (v:=lst qi a_0.Brokers) rfl ?_
 obtain ⟨v7,hx8,hF9⟩:=ql hF
 simp only [zf1,qe,zf,B0,reduceIte,reduceEqDiff]
 refine ja rfl (qk zm (qk qs zg)) (qh6 (fun b hb=>decide_eq_true hb) k a_0.Brokers k_1 v7 hx8) ?_
 simp only [qe,qa,q2y,qd,qc,qp,qb,yl,qx,B0,reduceIte,reduceEqDiff]
 refine qr (t:=(decide (v7<0))) (fun hc10=>?_) (fun hc10=>?_)
 ·rw [iteT hc10] at hF9
  simp only [qd,qc,qe,qa,qv,B0,reduceIte,reduceEqDiff]
  have he:=qh hF9
  subst he
  simp only [qw,B0,reduceIte,reduceEqDiff]
  exact rfl
 rw [iteF hc10] at hF9
 simp only [q8,q3a,qd,qc,qo,qb,Nat.reduceAdd,Nat.zero_add,Nat.add_zero,qq,qm,B0,reduceIte,reduceEqDiff]
 refine qg (v:=lst qj a_0.Parts) rfl ?_
 obtain ⟨v11,hx12,hF13⟩:=ql hF9
 simp only [qe,zf,B0,reduceIte,reduceEqDiff]
 refine ja rfl (qk zm (qk qs zg)) (qgp (fun b hb=>decide_eq_true hb) k a_0.Parts v7 v11 hx12) ?_
 simp only [qe,qa,q0p,qd,qc,qp,qb,yl,qx,B0,reduceIte,reduceEqDiff]
 refine qr (t:=(decide (v11<0))) (fun hc14=>?_) (fun hc14=>?_)
 ·rw [iteT hc14] at hF13
  simp only [qd,qc,qe,qa,qv,B0,reduceIte,reduceEqDiff]
  have he:=qh hF13
  subst he
  simp only [qw,B0,reduceIte,reduceEqDiff]
  exact rfl
 rw [iteF hc14] at hF13
 simp only [q8,qd,qc,qe,qa,qv,B0,reduceIte,reduceEqDiff]
 have he:=qh hF13
 subst he
 simp only [qw,B0,reduceIte,reduceEqDiff]
 exact rfl
end Go.Proofs.Ytjloihcijdcpeaa.X
namespace Go.Proofs.Ytjloihcijdcpeaa.X
open Go
open Nat (reduceEqDiff)
theorem qe3 {W:Nat→Bool}{h:Heap} (hW:∀ b,
  (geL h.length) b→W b=true) (k:Nat) (v_0:Int) (v_1:List Command) (r:Bool) (hF:yj k v_0 v_1=some r) : Ret E W 5 [.int .i64 v_0,
  lst zh v_1] h (fun v h'=>cut h.length h' E.sz false 9 v=some (.bool r)):=by
 refine Ret.of (fn:=x5) rfl (Run.of ?_)
 unfold yj at hF
 have zf0:zc [.int .i64 v_0,lst zh v_1] 0 = .int .i64 v_0:=rfl
 have zf1:zc [.int .i64 v_0,lst zh v_1] 1=lst zh v_1:=rfl
 generalize zc [.int .i64 v_0,lst zh v_1]=fr0 at zf0 zf1 ⊢
 have hS:Sep h (geL h.length) []:=Sep.nil h
 obtain ⟨v1,hx2,hF3⟩:=ql hF
 simp only [x5,qd,qc,qe,qa,qzm,qxz,zf1,zf,B0,reduceIte,reduceEqDiff]
 refine ja rfl (qk zm (qk qs zg)) (qis (fun b hb=>decide_eq_true hb) k v_1 1048576 v1 hx2) ?_
 simp only [qe,qa,q3w,qd,qc,qp,qb,yl,qx,B0,reduceIte,reduceEqDiff]
 refine qr (t:=(decide (v1<0))) (fun hc4=>?_) (fun hc4=>?_)
 ·rw [iteT hc4] at hF3
  simp only [qd,qc,qe,qa,qv,B0,reduceIte,reduceEqDiff]
  have he:=qh hF3
  subst he
  simp only [qw,B0,reduceIte,reduceEqDiff]
  exact rfl
 rw [iteF hc4] at hF3
 obtain ⟨v5,hx6,hF7⟩:=ql hF3
 simp only [q8,q3h,qd,qc,zf0,qe,zf1,zf,B0,reduceIte,reduceEqDiff]
 refine u7 rfl hS (qk zm zg) (qaz (fun b hb=>decide_eq_true hb) k v_1 v5 hx6) ?_
 rintro v8 h12 ⟨_,c9,rfl,hv10,hS13⟩
 refine ⟨_,qhs (SlN.free1 hv10),hS13,(j5 (SlN.pf hv10 Command.RO) we),fun h14 hS15=>?_⟩
 have hS16:Sep h14 (geL h.length) (c9++([])):=by simpa only [List.append_assoc,List.nil_append] using hS15
 obtain ⟨v17,hx18,hF19⟩:=ql hF7
 simp only [zf,B0,reduceIte,reduceEqDiff]
 refine u7 rfl hS16 (qk qs (qk (SlN.snap hv10 _ hS16 rfl Command.RO) zg)) (qhq (fun b hb=>decide_eq_true hb) k v_0 v5 v17 hx18) ?_
 rintro _ h32 ⟨v20,c21,v24,c25,v28,c29,rfl,hv22,hv26,hv30,hS33⟩
 refine ⟨_,qgu (qt (qfg (qt (SlF.free1 hv22) (qt (SlN.free1 hv26) (qt rfl zr)))) (qt (qka (SlF.free1 hv30)) (qt rfl zr))),hS33,
   (j5 (SlF.pf hv22 (fun _=>rfl)) (j5 (SlN.pf hv26 Partition.RO) (j5 (SlF.pf hv30 (fun _=>rfl)) we))),fun h34 hS35=>?_⟩
 have hS36:Sep h34 (geL h.length) (c21++(c25++(c29++(c9++([]))))):=by simpa only [List.append_assoc,List.nil_append] using hS35
 simp only [qe,qff,qb,qfn,qfk,qj2,jv,B0,reduceIte,reduceEqDiff]
 refine jc hS36 (fun b37 h38 hS39=>?_)
 simp only [zn,B0,reduceIte,reduceEqDiff]
 refine zi (us:=[v20,v24,.int .i64 v17.1.Next]) rfl (cs':=[v20,v24,
   .int .i64 v17.1.Next]) hS39 hW rfl (qt (SlF.one hv22) (qt (SlN.one hv26) (qt rfl zr))) (nle rfl) rfl (fun h41 hS42=>?_)
 simp only [qe,qa,B0,reduceIte,reduceEqDiff]
 refine zu hS42 hW (by simp only [B0,reduceIte,reduceEqDiff]) (fun h43 hS44=>?_)
 obtain ⟨v45,hx46,hF47⟩:=ql hF19
 simp only [zx,qwj,qd,qc,zf1,qe,zf,B0,reduceIte,reduceEqDiff]
 refine u7 rfl hS44 (qk zm zg) (qaz (fun b hb=>decide_eq_true hb) k v_1 v45 hx46) ?_
 rintro v48 h52 ⟨_,c49,rfl,hv50,hS53⟩
 refine ⟨_,qhs (SlN.free1 hv50),hS53,(j5 (SlN.pf hv50 Command.RO) we),fun h54 hS55=>?_⟩
 have hS56:Sep h54 (geL h.length) (c49++(c21++(c25++(c29++(c9++([])))))):=by simpa only [List.append_assoc,List.nil_append] using hS55
 obtain ⟨v57,hx58,hF59⟩:=ql hF47
 simp only [qe,qa,qyw,qd,qc,zf0,zf,B0,reduceIte,reduceEqDiff]
 refine u7 rfl hS56 (qk qs (qk (SlN.snap hv50 _ hS56 rfl Command.RO) zg)) (qd1 (fun b hb=>decide_eq_true hb) v_0 v45 v57 hx58) ?_
 rintro _ h72 ⟨v60,c61,v64,c65,v68,c69,rfl,hv62,hv66,hv70,hS73⟩
 refine ⟨_,qgu (qt (qfg (qt (SlF.free1 hv62) (qt (SlN.free1 hv66) (qt rfl zr)))) (qt (qka (SlF.free1 hv70)) (qt rfl zr))),hS73,
   (j5 (SlF.pf hv62 (fun _=>rfl)) (j5 (SlN.pf hv66 Partition.RO) (j5 (SlF.pf hv70 (fun _=>rfl)) we))),fun h74 hS75=>?_⟩
 have hS76:Sep h74 (geL h.length) (c61++(c65++(c69++(c49++(c21++(c25++(c29++(c9++([]))))))))):=by simpa only [List.append_assoc,List.nil_append] using hS75
 simp only [qe,qff,qb,qfn,qfk,qj2,jv,B0,reduceIte,reduceEqDiff]
 refine jc hS76 (fun b77 h78 hS79=>?_)
 simp only [zn,B0,reduceIte,reduceEqDiff]
 refine zi (us:=[v60,v64,.int .i64 v57.1.Next]) rfl (cs':=[v60,v64,
   .int .i64 v57.1.Next]) hS79 hW rfl (qt (SlF.one hv62) (qt (SlN.one hv66) (qt rfl zr))) (nle rfl) rfl (fun h81 hS82=>?_)
 simp only [qe,qa,B0,reduceIte,reduceEqDiff]
 refine zu hS82 hW (by simp only [B0,reduceIte,reduceEqDiff]) (fun h83 hS84=>?_)
 simp only [zx,qz7,qd,qc,qm,B0,reduceIte,reduceEqDiff]
 refine qg (v := .agg [v60,v64,.int .i64 v57.1.Next]) rfl ?_
 simp only [qm,B0,reduceIte,reduceEqDiff]
 refine qg (v := .agg [v20,v24,.int .i64 v17.1.Next]) rfl ?_
 obtain ⟨v85,hx86,hF87⟩:=ql hF59
 simp only [zf,B0,reduceIte,reduceEqDiff]
 refine ja rfl (qk (jb (qk (SlF.snap hv62 hS84 rfl (fun _=>rfl) (fun _=>rfl)) (qk (SlN.snap hv66 _ (Sep.m1 hS84) rfl Partition.RO)
   (qk qs zg)))) (qk (jb (qk (SlF.snap hv22 (Sep.m4 hS84) rfl (fun _=>rfl) (fun _=>rfl)) (qk (SlN.snap hv26 _ (Sep.m5 hS84) rfl Partition.RO)
   (qk qs zg)))) zg)) (qc8 (fun b hb=>decide_eq_true hb) k v57.1 v17.1 v85 hx86) ?_
 simp only [jl,qb,kd,qe,B0,reduceIte,reduceEqDiff]
 obtain ⟨v91,hx92,hF93⟩:=ql hF87
 refine zy 5 (fun fr' h'=>Sep h' (geL h.length) (c21++(c25++(c29++(c49++(c61++(c65++(c69 ++
   ([]))))))))∧fr' 50 = .bool v91∧fr' 0 = .int .i64 v_0∧fr' 1=lst zh v_1∧fr' 6 = .ref [v20,v24,
   .int .i64 v17.1.Next] 0∧fr' 7=v28∧fr' 8 = .bool v17.2.2∧fr' 9=v48∧fr' 10 = .ref [v60,v64,
   .int .i64 v57.1.Next] 0∧fr' 11=v68∧fr' 12 = .bool v57.2.2) (fun Q88 hN89=>?_) ?_
 ·simp only [List.take_succ_cons,List.take_zero]
  simp only [qf (g:=45),B0,reduceIte,reduceEqDiff]
  refine zd (t:=(!v85)) (fun hg90=>?_) (fun hg90=>?_)
  ·rw [iteT hg90] at hx92
   simp only [hg90,qf (g:=45),z4,qu,qb,zk,qa,qn,B0,reduceIte,reduceEqDiff]
   have e94:=qh hx92
   exact hN89 _ _ ⟨(Sep.m6 (Sep.m6 (Sep.m6 (Sep.m3 (Sep.m2 (Sep.m2 (Sep.m2 (Sep.dc (Sep.m7 hS84))))))))),by rw [←e94]; simp only [B0,reduceIte,reduceEqDiff],zf0,zf1,rfl,
     rfl,rfl,rfl,rfl,rfl,rfl⟩
  ·rw [iteF hg90] at hx92
   obtain ⟨v95,hx96,hF97⟩:=ql hx92
   simp only [hg90,qf (g:=45),qz,qe,zf,B0,reduceIte,reduceEqDiff]
   refine ja rfl (qk (SlF.snap hv70 (Sep.m2 hS84) rfl (fun _=>rfl) (fun _=>rfl)) (qk (SlF.snap hv30 (Sep.m6 hS84) rfl (fun _=>rfl) (fun _=>rfl)) zg))
     (qab (fun b hb=>decide_eq_true hb) k v57.2.1 v17.2.1 v95 hx96) ?_
   simp only [hg90,qf (g:=45),qz,jl,qb,kd,qu,zj,qa,qn,B0,reduceIte,reduceEqDiff]
   have e98:=qh hF97
   exact hN89 _ _ ⟨(Sep.m6 (Sep.m6 (Sep.m6 (Sep.m3 (Sep.m2 (Sep.m2 (Sep.m2 (Sep.dc (Sep.m7 hS84))))))))),by rw [←e98]; simp only [B0,reduceIte,reduceEqDiff],zf0,zf1,rfl,
     rfl,rfl,rfl,rfl,rfl,rfl⟩
 rintro fr99 h110 ⟨hS111,f100,f101,f102,f103,f104,f105,f106,f107,f108,f109⟩
 simp only [List.drop_succ_cons,List.drop_zero]
 simp only [f100,qe,B0,reduceIte,reduceEqDiff]
 refine zy 4 (fun fr' h'=>Sep h' (geL h.length) (c21++(c25++(c29++(c49++(c61++(c65++(c69++([]))))))))∧fr' 55 = .bool (v91 ||
   (!(v57.2.2 == v17.2.2)))∧fr' 0 = .int .i64 v_0∧fr' 1=lst zh v_1∧fr' 6 = .ref [v20,v24,
   .int .i64 v17.1.Next] 0∧fr' 7=v28∧fr' 8 = .bool v17.2.2∧fr' 9=v48∧fr' 10 = .ref [v60,v64,
   .int .i64 v57.1.Next] 0∧fr' 11=v68∧fr' 12 = .bool v57.2.2) (fun Q112 hN113=>?_) ?_
 ·simp only [List.take_succ_cons,List.take_zero]
  simp only [qf (g:=51),B0,reduceIte,reduceEqDiff]
  refine zd (t:=v91) (fun hg114=>?_) (fun hg114=>?_)
  ·simp only [hg114,qf (g:=51),z4,qu,qb,zk,qa,qn,B0,reduceIte,reduceEqDiff]
   exact hN113 _ _ ⟨(Sep.m6 (Sep.m6 (Sep.m6 (Sep.m6 (Sep.m6 (Sep.m6 (Sep.m6 hS111))))))),by rw [orT hg114]; simp only [B0,reduceIte,reduceEqDiff],f101,f102,f103,f104,
     f105,f106,f107,f108,f109⟩
  ·simp only [hg114,qf (g:=51),qz,f109,qe,f105,qfe,qb,qgj,qu,zj,qa,qn,B0,reduceIte,reduceEqDiff]
   exact hN113 _ _ ⟨(Sep.m6 (Sep.m6 (Sep.m6 (Sep.m6 (Sep.m6 (Sep.m6 (Sep.m6 hS111))))))),by rw [orF hg114]; simp only [B0,reduceIte,reduceEqDiff],f101,f102,f103,f104,
     f105,f106,f107,f108,f109⟩
 rintro fr115 h126 ⟨hS127,f116,f117,f118,f119,f120,f121,f122,f123,f124,f125⟩
 simp only [List.drop_succ_cons,List.drop_zero]
 simp only [qa,f116,qx,B0,reduceIte,reduceEqDiff]
 refine qr (t:=(v91||(!(v57.2.2 == v17.2.2)))) (fun hc128=>?_) (fun hc128=>?_)
 ·rw [iteT hc128] at hF93
  simp only [qd,qc,qe,qa,qv,B0,reduceIte,reduceEqDiff]
  have he:=qh hF93
  subst he
  simp only [qw,B0,reduceIte,reduceEqDiff]
  exact rfl
 rw [iteF hc128] at hF93
 obtain ⟨v129,hx130,hF131⟩:=ql hF93
 simp only [q8,q2z,qd,qc,f122,qe,f118,zf,B0,reduceIte,reduceEqDiff]
 refine u7 rfl hS127 (qk zm zg) (qaz (fun b hb=>decide_eq_true hb) k v_1 v129 hx130) ?_
 rintro v132 h136 ⟨_,c133,rfl,hv134,hS137⟩
 refine ⟨_,qhs (SlN.free1 hv134),hS137,(j5 (SlN.pf hv134 Command.RO) we),fun h138 hS139=>?_⟩
 have hS140:Sep h138 (geL h.length) (c133++(c21++(c25++(c29++(c49++(c61++(c65++(c69++([]))))))))):=by simpa only [List.append_assoc,
   List.nil_append] using hS139
 obtain ⟨v141,hx142,hF143⟩:=ql hF131
 simp only [zf,B0,reduceIte,reduceEqDiff]
 refine ja rfl (qk (SlN.snap hv50 _ (Sep.m4 hS140) rfl Command.RO) (qk (SlN.snap hv134 _ hS140 rfl Command.RO) zg)) (qit
   (fun b hb=>decide_eq_true hb) k v45 v129 v141 hx142) ?_
 simp only [jl,qb,kd,qa,qx,B0,reduceIte,reduceEqDiff]
 refine qr (t:=(!v141)) (fun hc144=>?_) (fun hc144=>?_)
 ·rw [iteT hc144] at hF143
  simp only [qd,qc,qe,qa,qv,B0,reduceIte,reduceEqDiff]
  have he:=qh hF143
  subst he
  simp only [qw,B0,reduceIte,reduceEqDiff]
  exact rfl
 rw [iteF hc144] at hF143
 obtain ⟨v145,hx146,hF147⟩:=ql hF143
 simp only [q8,q2p,qd,qc,qe,qa,qxm,f122,zf,B0,reduceIte,reduceEqDiff]
 refine qa1 rfl (qho hW k v48 c49 v45 hv50 1 v145 hx146 (Sep.m4 hS140)) ?_
 rintro _ h150 ⟨c148,rfl,hv149,hS151⟩
 simp only [qe,qa,q0d,qd,qc,qp,qb,yl,B0,reduceIte,reduceEqDiff]
 obtain ⟨v155,hx156,hF157⟩:=ql hF147
 refine zy 5 (fun fr' h'=>Sep h' (geL h.length) (c21++(c25++(c29++(c61++(c65++(c69 ++
   ([])))))))∧fr' 71 = .bool v155∧fr' 0 = .int .i64 v_0∧fr' 1=lst zh v_1∧fr' 6 = .ref [v20,v24,
   .int .i64 v17.1.Next] 0∧fr' 7=v28∧fr' 8 = .bool v17.2.2∧fr' 10 = .ref [v60,v64,
   .int .i64 v57.1.Next] 0∧fr' 11=v68∧fr' 12 = .bool v57.2.2) (fun Q152 hN153=>?_) ?_
 ·simp only [List.take_succ_cons,List.take_zero]
  simp only [qf (g:=66),B0,reduceIte,reduceEqDiff]
  refine zd (t:=(decide (v145.1<0))) (fun hg154=>?_) (fun hg154=>?_)
  ·rw [iteT hg154] at hx156
   simp only [hg154,qf (g:=66),z4,qu,qb,zk,qa,qn,B0,reduceIte,reduceEqDiff]
   have e158:=qh hx156
   exact hN153 _ _ ⟨(Sep.m5 (Sep.m5 (Sep.m5 (Sep.m5 (Sep.m5 (Sep.m5 (Sep.dc ((Sep.dc (hS151)))))))))),by rw [←e158]; simp only [B0,reduceIte,reduceEqDiff],f117,f118,
     f119,f120,f121,f123,f124,f125⟩
  ·rw [iteF hg154] at hx156
   simp only [hg154,qf (g:=66),qz,f123,qm,B0,reduceIte,reduceEqDiff]
   refine qg (v := .agg [v60,v64,.int .i64 v57.1.Next]) rfl ?_
   simp only [hg154,qf (g:=66),qz,f119,qm,B0,reduceIte,reduceEqDiff]
   refine qg (v := .agg [v20,v24,.int .i64 v17.1.Next]) rfl ?_
   obtain ⟨v159,hx160,hF161⟩:=ql hx156
   simp only [hg154,qf (g:=66),qz,zf,B0,reduceIte,reduceEqDiff]
   refine ja rfl (qk (jb (qk (SlF.snap hv62 (Sep.m5 hS151) rfl (fun _=>rfl) (fun _=>rfl)) (qk (SlN.snap hv66 _ (Sep.m6 hS151) rfl Partition.RO)
     (qk qs zg)))) (qk (jb (qk (SlF.snap hv22 (Sep.m2 hS151) rfl (fun _=>rfl) (fun _=>rfl)) (qk (SlN.snap hv26 _
     (Sep.m3 hS151) rfl Partition.RO) (qk qs zg)))) zg)) (qc8 (fun b hb=>decide_eq_true hb) k v57.1 v17.1 v159 hx160) ?_
   simp only [hg154,qf (g:=66),qz,jl,qb,kd,qu,zj,qa,qn,B0,reduceIte,reduceEqDiff]
   have e162:=qh hF161
   exact hN153 _ _ ⟨(Sep.m5 (Sep.m5 (Sep.m5 (Sep.m5 (Sep.m5 (Sep.m5 (Sep.dc ((Sep.dc (hS151)))))))))),by rw [←e162]; simp only [B0,reduceIte,reduceEqDiff],f117,f118,
     f119,f120,f121,f123,f124,f125⟩
 rintro fr163 h173 ⟨hS174,f164,f165,f166,f167,f168,f169,f170,f171,f172⟩
 simp only [List.drop_succ_cons,List.drop_zero]
 simp only [f164,qe,B0,reduceIte,reduceEqDiff]
 obtain ⟨v178,hx179,hF180⟩:=ql hF157
 refine zy 5 (fun fr' h'=>Sep h' (geL h.length) (c21++(c25++(c29++(c61++(c65++(c69 ++
   ([])))))))∧fr' 77 = .bool v178∧fr' 0 = .int .i64 v_0∧fr' 1=lst zh v_1∧fr' 6 = .ref [v20,v24,
   .int .i64 v17.1.Next] 0∧fr' 7=v28∧fr' 8 = .bool v17.2.2∧fr' 10 = .ref [v60,v64,
   .int .i64 v57.1.Next] 0∧fr' 11=v68∧fr' 12 = .bool v57.2.2) (fun Q175 hN176=>?_) ?_
 ·simp only [List.take_succ_cons,List.take_zero]
  simp only [qf (g:=72),B0,reduceIte,reduceEqDiff]
  refine zd (t:=v155) (fun hg177=>?_) (fun hg177=>?_)
  ·rw [iteT hg177] at hx179
   simp only [hg177,qf (g:=72),z4,qu,qb,zk,qa,qn,B0,reduceIte,reduceEqDiff]
   have e181:=qh hx179
   exact hN176 _ _ ⟨(Sep.m5 (Sep.m5 (Sep.m5 (Sep.m5 (Sep.m5 (Sep.m5 hS174)))))),by rw [←e181]; simp only [B0,reduceIte,reduceEqDiff],f165,f166,f167,f168,f169,f170,
     f171,f172⟩
  ·rw [iteF hg177] at hx179
   obtain ⟨v182,hx183,hF184⟩:=ql hx179
   simp only [hg177,qf (g:=72),qz,f171,qe,f168,zf,B0,reduceIte,reduceEqDiff]
   refine ja rfl (qk (SlF.snap hv70 (Sep.m5 hS174) rfl (fun _=>rfl) (fun _=>rfl)) (qk (SlF.snap hv30 (Sep.m2 hS174) rfl (fun _=>rfl) (fun _=>rfl)) zg))
     (qab (fun b hb=>decide_eq_true hb) k v57.2.1 v17.2.1 v182 hx183) ?_
   simp only [hg177,qf (g:=72),qz,jl,qb,kd,qu,zj,qa,qn,B0,reduceIte,reduceEqDiff]
   have e185:=qh hF184
   exact hN176 _ _ ⟨(Sep.m5 (Sep.m5 (Sep.m5 (Sep.m5 (Sep.m5 (Sep.m5 hS174)))))),by rw [←e185]; simp only [B0,reduceIte,reduceEqDiff],f165,f166,f167,f168,f169,f170,
     f171,f172⟩
 rintro fr186 h196 ⟨hS197,f187,f188,f189,f190,f191,f192,f193,f194,f195⟩
 simp only [List.drop_succ_cons,List.drop_zero]
 simp only [f187,qe,B0,reduceIte,reduceEqDiff]
 refine zy 4 (fun fr' h'=>Sep h' (geL h.length) (c21++(c25++(c29++(c61++(c65++(c69++([])))))))∧fr' 82 = .bool (v178 ||
   (!(v57.2.2 == v17.2.2)))∧fr' 0 = .int .i64 v_0∧fr' 1=lst zh v_1∧fr' 6 = .ref [v20,v24,
   .int .i64 v17.1.Next] 0∧fr' 7=v28∧fr' 8 = .bool v17.2.2∧fr' 10 = .ref [v60,v64,.int .i64 v57.1.Next] 0∧fr' 11=v68) (fun Q198 hN199=>?_) ?_
 ·simp only [List.take_succ_cons,List.take_zero]
  simp only [qf (g:=78),B0,reduceIte,reduceEqDiff]
  refine zd (t:=v178) (fun hg200=>?_) (fun hg200=>?_)
  ·simp only [hg200,qf (g:=78),z4,qu,qb,zk,qa,qn,B0,reduceIte,reduceEqDiff]
   exact hN199 _ _ ⟨(Sep.m5 (Sep.m5 (Sep.m5 (Sep.m5 (Sep.m5 (Sep.m5 hS197)))))),by rw [orT hg200]; simp only [B0,reduceIte,reduceEqDiff],f188,f189,f190,f191,f192,f193,
     f194⟩
  ·simp only [hg200,qf (g:=78),qz,f195,qe,f192,qfe,qb,qgj,qu,zj,qa,qn,B0,reduceIte,reduceEqDiff]
   exact hN199 _ _ ⟨(Sep.m5 (Sep.m5 (Sep.m5 (Sep.m5 (Sep.m5 (Sep.m5 hS197)))))),by rw [orF hg200]; simp only [B0,reduceIte,reduceEqDiff],f188,f189,f190,f191,f192,f193,
     f194⟩
 rintro fr201 h210 ⟨hS211,f202,f203,f204,f205,f206,f207,f208,f209⟩
 simp only [List.drop_succ_cons,List.drop_zero]
 simp only [qa,f202,qx,B0,reduceIte,reduceEqDiff]
 refine qr (t:=(v178||(!(v57.2.2 == v17.2.2)))) (fun hc212=>?_) (fun hc212=>?_)
 ·rw [iteT hc212] at hF180
  simp only [qd,qc,qe,qa,qv,B0,reduceIte,reduceEqDiff]
  have he:=qh hF180
  subst he
  simp only [qw,B0,reduceIte,reduceEqDiff]
  exact rfl
 rw [iteF hc212] at hF180
 simp only [q8,q1i,qd,qc,qe,qa,qw6,f208,qm,B0,reduceIte,reduceEqDiff]
 refine qg (v := .agg [v60,v64,.int .i64 v57.1.Next]) rfl ?_
 obtain ⟨v213,hx214,hF215⟩:=ql hF180
 simp only [qe,zf,B0,reduceIte,reduceEqDiff]
 refine qa1 rfl (qhw hW k v57.1 v60 c61 hv62 v64 c65 hv66 1 v213 hx214 (Sep.m4 (Sep.m4 hS211))) ?_
 rintro _ h220 ⟨c216,c218,rfl,hv217,hv219,hS221⟩
 obtain ⟨v222,hx223,hF224⟩:=ql hF215
 simp only [qe,qa,qwu,qd,qc,f209,zf,B0,reduceIte,reduceEqDiff]
 refine qa1 rfl (qb0 hW k v68 c69 v57.2.1 hv70 v213.1 v222 hx223 (Sep.m5 hS221)) ?_
 rintro _ h227 ⟨c225,rfl,hv226,hS228⟩
 simp only [qe,qa,qy6,qd,qc,q31,f208,qm,B0,reduceIte,reduceEqDiff]
 refine qg (v := .agg [v60,v64,.int .i64 v57.1.Next]) rfl ?_
 obtain ⟨v229,hx230,hF231⟩:=ql hF224
 simp only [qe,zf,B0,reduceIte,reduceEqDiff]
 refine ja rfl (qk (jb (qk (SlF.snap hv217 (Sep.m1 hS228) rfl (fun _=>rfl) (fun _=>rfl)) (qk (SlN.snap hv219 _ (Sep.m2 hS228) rfl Partition.RO)
   (qk qs zg)))) (qk qs zg)) (qeo (fun b hb=>decide_eq_true hb) k (Control.mk v213.2.Brokers v213.2.Parts v57.1.Next) 1 v229 hx230) ?_
 simp only [qe,qa,qyh,qd,qc,qp,qb,yl,qx,B0,reduceIte,reduceEqDiff]
 refine qr (t:=(decide (v229<0))) (fun hc232=>?_) (fun hc232=>?_)
 ·rw [iteT hc232] at hF231
  simp only [qd,qc,qe,qa,qv,B0,reduceIte,reduceEqDiff]
  have he:=qh hF231
  subst he
  simp only [qw,B0,reduceIte,reduceEqDiff]
  exact rfl
 rw [iteF hc232] at hF231
 obtain ⟨v233,hx234,hF235⟩:=ql hF231
 simp only [q8,qx0,qd,qc,f209,qe,zf,B0,reduceIte,reduceEqDiff]
 refine ja rfl (qk (SlF.snap hv226 hS228 rfl (fun _=>rfl) (fun _=>rfl)) (qk qs zg)) (qby
   (fun b hb=>decide_eq_true hb) k v222.2 v229 v233 hx234) ?_
 simp only [qe,qa,q1w,qd,qc,qp,qb,yl,qx,B0,reduceIte,reduceEqDiff]
 refine qr (t:=(decide (v233<0))) (fun hc236=>?_) (fun hc236=>?_)
 ·rw [iteT hc236] at hF235
  simp only [qd,qc,qe,qa,qv,B0,reduceIte,reduceEqDiff]
  have he:=qh hF235
  subst he
  simp only [qw,B0,reduceIte,reduceEqDiff]
  exact rfl
 rw [iteF hc236] at hF235
 simp only [q8,q6u,qd,qc,qe,qp,qb,kx,qa,qx,B0,reduceIte,reduceEqDiff]
 refine qr (t:=(decide (v233≠v222.1))) (fun hc237=>?_) (fun hc237=>?_)
 ·rw [iteT hc237] at hF235
  simp only [qd,qc,qe,qa,qv,B0,reduceIte,reduceEqDiff]
  have he:=qh hF235
  subst he
  simp only [qw,B0,reduceIte,reduceEqDiff]
  exact rfl
 rw [iteF hc237] at hF235
 obtain ⟨v238,hx239,hF240⟩:=ql hF235
 simp only [q8,q7a,qd,qc,f203,qe,f204,zf,B0,reduceIte,reduceEqDiff]
 refine u7 rfl hS228 (qk zm zg) (qaz (fun b hb=>decide_eq_true hb) k v_1 v238 hx239) ?_
 rintro v241 h245 ⟨_,c242,rfl,hv243,hS246⟩
 refine ⟨_,qhs (SlN.free1 hv243),hS246,(j5 (SlN.pf hv243 Command.RO) we),fun h247 hS248=>?_⟩
 have hS249:Sep h247 (geL h.length) (c242++(c225++(c216++(c218++(c21++(c25++(c29++([])))))))):=by simpa only [List.append_assoc,List.nil_append] using hS248
 obtain ⟨v250,hx251,hF252⟩:=ql hF240
 simp only [zf,B0,reduceIte,reduceEqDiff]
 refine u7 rfl hS249 (qk qs (qk (SlN.snap hv243 _ hS249 rfl Command.RO) zg)) (qd1 (fun b hb=>decide_eq_true hb) v_0 v238 v250 hx251) ?_
 rintro _ h265 ⟨v253,c254,v257,c258,v261,c262,rfl,hv255,hv259,hv263,hS266⟩
 refine ⟨_,qgu (qt (qfg (qt (SlF.free1 hv255) (qt (SlN.free1 hv259) (qt rfl zr)))) (qt (qka (SlF.free1 hv263)) (qt rfl zr))),hS266,
   (j5 (SlF.pf hv255 (fun _=>rfl)) (j5 (SlN.pf hv259 Partition.RO) (j5 (SlF.pf hv263 (fun _=>rfl)) we))),fun h267 hS268=>?_⟩
 have hS269:Sep h267 (geL h.length) (c254++(c258++(c262++(c242++(c225++(c216++(c218++(c21++(c25++(c29++([]))))))))))):=by simpa only [List.append_assoc,
   List.nil_append] using hS268
 simp only [qe,qff,qb,qfn,qfk,qj2,jv,B0,reduceIte,reduceEqDiff]
 refine jc hS269 (fun b270 h271 hS272=>?_)
 simp only [zn,B0,reduceIte,reduceEqDiff]
 refine zi (us:=[v253,v257,.int .i64 v250.1.Next]) rfl (cs':=[v253,v257,
   .int .i64 v250.1.Next]) hS272 hW rfl (qt (SlF.one hv255) (qt (SlN.one hv259) (qt rfl zr))) (nle rfl) rfl (fun h274 hS275=>?_)
 simp only [qe,qa,B0,reduceIte,reduceEqDiff]
 refine zu hS275 hW (by simp only [B0,reduceIte,reduceEqDiff]) (fun h276 hS277=>?_)
 simp only [zx,q5m,qd,qc,qm,B0,reduceIte,reduceEqDiff]
 refine qg (v := .agg [v253,v257,.int .i64 v250.1.Next]) rfl ?_
 simp only [f205,qm,B0,reduceIte,reduceEqDiff]
 refine qg (v := .agg [v20,v24,.int .i64 v17.1.Next]) rfl ?_
 obtain ⟨v278,hx279,hF280⟩:=ql hF252
 simp only [zf,B0,reduceIte,reduceEqDiff]
 refine ja rfl (qk (jb (qk (SlF.snap hv255 hS277 rfl (fun _=>rfl) (fun _=>rfl)) (qk (SlN.snap hv259 _ (Sep.m1 hS277) rfl Partition.RO)
   (qk qs zg)))) (qk (jb (qk (SlF.snap hv22 (Sep.m7 hS277) rfl (fun _=>rfl) (fun _=>rfl)) (qk (SlN.snap hv26 _ (Sep.m8 hS277) rfl Partition.RO)
   (qk qs zg)))) zg)) (qc8 (fun b hb=>decide_eq_true hb) k v250.1 v17.1 v278 hx279) ?_
 simp only [jl,qb,kd,qe,B0,reduceIte,reduceEqDiff]
 obtain ⟨v284,hx285,hF286⟩:=ql hF280
 refine zy 5 (fun fr' h'=>Sep h' (geL h.length) (c216++(c218++(c225++([]))))∧fr' 119 = .bool v284∧fr' 8 = .bool v17.2.2∧fr' 10 = .ref [v60,v64,
   .int .i64 v57.1.Next] 0∧fr' 11=v68∧fr' 14 = .int .i64 v222.1∧fr' 18 = .bool v250.2.2) (fun Q281 hN282=>?_) ?_
 ·simp only [List.take_succ_cons,List.take_zero]
  simp only [qf (g:=114),B0,reduceIte,reduceEqDiff]
  refine zd (t:=(!v278)) (fun hg283=>?_) (fun hg283=>?_)
  ·rw [iteT hg283] at hx285
   simp only [hg283,qf (g:=114),z4,qu,qb,zk,qa,qn,B0,reduceIte,reduceEqDiff]
   have e287:=qh hx285
   exact hN282 _ _ ⟨(Sep.m2 (Sep.m2 (Sep.dc (Sep.m3 (Sep.dc (Sep.m3 (Sep.dc (Sep.m3 (Sep.dc ((Sep.dc ((Sep.dc ((Sep.dc (hS277)))))))))))))))),by rw [←e287]; simp only [B0,
     reduceIte,reduceEqDiff],f207,f208,f209,rfl,rfl⟩
  ·rw [iteF hg283] at hx285
   obtain ⟨v288,hx289,hF290⟩:=ql hx285
   simp only [hg283,qf (g:=114),qz,qe,f206,zf,B0,reduceIte,reduceEqDiff]
   refine ja rfl (qk (SlF.snap hv263 (Sep.m2 hS277) rfl (fun _=>rfl) (fun _=>rfl)) (qk (SlF.snap hv30 (Sep.m9 hS277) rfl (fun _=>rfl) (fun _=>rfl)) zg))
     (qab (fun b hb=>decide_eq_true hb) k v250.2.1 v17.2.1 v288 hx289) ?_
   simp only [hg283,qf (g:=114),qz,jl,qb,kd,qu,zj,qa,qn,B0,reduceIte,reduceEqDiff]
   have e291:=qh hF290
   exact hN282 _ _ ⟨(Sep.m2 (Sep.m2 (Sep.dc (Sep.m3 (Sep.dc (Sep.m3 (Sep.dc (Sep.m3 (Sep.dc ((Sep.dc ((Sep.dc ((Sep.dc (hS277)))))))))))))))),by rw [←e291]; simp only [B0,
     reduceIte,reduceEqDiff],f207,f208,f209,rfl,rfl⟩
 rintro fr292 h299 ⟨hS300,f293,f294,f295,f296,f297,f298⟩
 simp only [List.drop_succ_cons,List.drop_zero]
 simp only [f293,qe,B0,reduceIte,reduceEqDiff]
 refine zy 4 (fun fr' h'=>Sep h' (geL h.length) (c216++(c218++(c225++([]))))∧fr' 124 = .bool (v284||(!(v250.2.2 == v17.2.2)))∧fr' 10 = .ref [v60,v64,
   .int .i64 v57.1.Next] 0∧fr' 11=v68∧fr' 14 = .int .i64 v222.1) (fun Q301 hN302=>?_) ?_
 ·simp only [List.take_succ_cons,List.take_zero]
  simp only [qf (g:=120),B0,reduceIte,reduceEqDiff]
  refine zd (t:=v284) (fun hg303=>?_) (fun hg303=>?_)
  ·simp only [hg303,qf (g:=120),z4,qu,qb,zk,qa,qn,B0,reduceIte,reduceEqDiff]
   exact hN302 _ _ ⟨(Sep.m2 (Sep.m2 (Sep.m2 hS300))),by rw [orT hg303]; simp only [B0,reduceIte,reduceEqDiff],f295,f296,f297⟩
  ·simp only [hg303,qf (g:=120),qz,f298,qe,f294,qfe,qb,qgj,qu,zj,qa,qn,B0,reduceIte,reduceEqDiff]
   exact hN302 _ _ ⟨(Sep.m2 (Sep.m2 (Sep.m2 hS300))),by rw [orF hg303]; simp only [B0,reduceIte,reduceEqDiff],f295,f296,f297⟩
 rintro fr304 h309 ⟨hS310,f305,f306,f307,f308⟩
 simp only [List.drop_succ_cons,List.drop_zero]
 simp only [qa,f305,qx,B0,reduceIte,reduceEqDiff]
 refine qr (t:=(v284||(!(v250.2.2 == v17.2.2)))) (fun hc311=>?_) (fun hc311=>?_)
 ·rw [iteT hc311] at hF286
  simp only [qd,qc,qe,qa,qv,B0,reduceIte,reduceEqDiff]
  have he:=qh hF286
  subst he
  simp only [qw,B0,reduceIte,reduceEqDiff]
  exact rfl
 rw [iteF hc311] at hF286
 simp only [q8,q6s,qd,qc,qe,qa,q50,f306,qm,B0,reduceIte,reduceEqDiff]
 refine qg (v := .agg [v60,v64,.int .i64 v57.1.Next]) rfl ?_
 obtain ⟨v312,hx313,hF314⟩:=ql hF286
 simp only [qe,zf,B0,reduceIte,reduceEqDiff]
 refine ja rfl (qk (jb (qk (SlF.snap hv217 hS310 rfl (fun _=>rfl) (fun _=>rfl)) (qk (SlN.snap hv219 _ (Sep.m1 hS310) rfl Partition.RO)
   (qk qs zg)))) (qk qs zg)) (qeo (fun b hb=>decide_eq_true hb) k (Control.mk v213.2.Brokers v213.2.Parts v57.1.Next) 1 v312 hx313) ?_
 simp only [qe,qa,q69,qd,qc,qp,qb,yl,qx,B0,reduceIte,reduceEqDiff]
 refine qr (t:=(decide (v312<0))) (fun hc315=>?_) (fun hc315=>?_)
 ·rw [iteT hc315] at hF314
  simp only [qd,qc,qe,qa,qv,B0,reduceIte,reduceEqDiff]
  have he:=qh hF314
  subst he
  simp only [qw,B0,reduceIte,reduceEqDiff]
  exact rfl
 rw [iteF hc315] at hF314
 obtain ⟨v316,hx317,hF318⟩:=ql hF314
 simp only [q8,q6h,qd,qc,f307,qe,zf,B0,reduceIte,reduceEqDiff]
 refine ja rfl (qk (SlF.snap hv226 (Sep.m2 hS310) rfl (fun _=>rfl) (fun _=>rfl)) (qk qs zg)) (qby
   (fun b hb=>decide_eq_true hb) k v222.2 v312 v316 hx317) ?_
 simp only [qe,qa,q6d,qd,qc,qp,qb,yl,qx,B0,reduceIte,reduceEqDiff]
 refine qr (t:=(decide (v316<0))) (fun hc319=>?_) (fun hc319=>?_)
 ·rw [iteT hc319] at hF318
  simp only [qd,qc,qe,qa,qv,B0,reduceIte,reduceEqDiff]
  have he:=qh hF318
  subst he
  simp only [qw,B0,reduceIte,reduceEqDiff]
  exact rfl
 rw [iteF hc319] at hF318
 simp only [q8,q51,qd,qc,qe,f308,qp,qb,kx,qa,qx,B0,reduceIte,reduceEqDiff]
 refine qr (t:=(decide (v316≠v222.1))) (fun hc320=>?_) (fun hc320=>?_)
 ·rw [iteT hc320] at hF318
  simp only [qd,qc,qe,qa,qv,B0,reduceIte,reduceEqDiff]
  have he:=qh hF318
  subst he
  simp only [qw,B0,reduceIte,reduceEqDiff]
  exact rfl
 rw [iteF hc320] at hF318
 simp only [q8,qd,qc,qe,qa,qv,B0,reduceIte,reduceEqDiff]
 have he:=qh hF318
 subst he
 simp only [qw,B0,reduceIte,reduceEqDiff]
 exact rfl
end Go.Proofs.Ytjloihcijdcpeaa.X
