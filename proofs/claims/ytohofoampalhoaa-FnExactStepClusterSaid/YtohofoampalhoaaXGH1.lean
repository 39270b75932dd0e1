/- The functions' code comes to what the plain functions say (1). -/
import Derived.Test.YtohofoampalhoaaXGF
import Derived.Test.YtohofoampalhoaaXGD
open Go.IntKind renaming wrap→l4
open List renaming append_assoc→l5,length→f0
open Nat renaming add_zero→e8,reduceAdd→d8,reduceEqDiff→a9,zero_add→d9
open Go.Proofs.Ytohofoampalhoaa.X.Sep renaming bk→o9,m1→n7,m2→l9,m3→l6,nil→a0k
open Go.Proofs.Ytohofoampalhoaa.X.SlF renaming free1→a0n,ia→a16,isrow→a04,one→l7,pf→a1j,snap→a0c
set_option linter.unusedVariables false
set_option linter.unusedSimpArgs false
set_option maxRecDepth 100000
namespace Go.Proofs.Ytohofoampalhoaa.X
open Go
def Node.R:Rep Node:=fun x cs os=>∃ (v2:XV) (c2:List Obj) (v3:XV) (c3:List Obj) (v4:XV) (c4:List Obj),
  SlF cI 1 3 v2 x.View.InStep c2∧SlF qg 2 92 v3 x.Log c3∧SlF cI 1 3 v4 x.Known c4∧cs=[.int .i64 x.View.Epoch,.int .i64 x.View.Leader,v2,v3,v4,
  .int .i64 x.Told]∧c2++(c3++(c4))=os
theorem Node.RI {x:Node}{v2:XV}{c2:List Obj}(h2:SlF cI 1 3 v2 x.View.InStep c2){v3:XV}{c3:List Obj}
  (h3:SlF qg 2 92 v3 x.Log c3) {v4:XV} {c4:List Obj} (h4:SlF cI 1 3 v4 x.Known c4) : Node.R x [.int .i64 x.View.Epoch,.int .i64 x.View.Leader,v2,v3,v4,
  .int .i64 x.Told] (c2++(c3++(c4))):=⟨v2,c2,v3,c3,v4,c4,h2,h3,h4,rfl,rfl⟩
theorem Node.RO:RepOk E.sz Node.R qq 6 where
 len:=fun {x cs os} H=>by
  obtain ⟨v2,c2,v3,c3,v4,c4,h2,h3,h4,rfl,rfl⟩:=H
  rfl
 flen:=fun _=>rfl
 one:=fun {x cs os} H=>by
  obtain ⟨v2,c2,v3,c3,v4,c4,h2,h3,h4,rfl,rfl⟩:=H
  exact (qm rfl (qm rfl (qm (l7 h2) (qm (l7 h3) (qm (l7 h4) (qm rfl zq))))))
 snap:=fun {x cs os h lo S} m H hS=>by
  obtain ⟨v2,c2,v3,c3,v4,c4,h2,h3,h4,rfl,rfl⟩:=H
  have hS2:Sep h lo (c2++(c3++(c4++S))):=(by simpa only [l5] using hS)
  exact (qi qo (qi qo (qi (a0c h2 hS2 rfl (fun _=>rfl) (fun _=>rfl)) (qi (a0c h3 (n7 hS2) rfl (fun _=>rfl) (fun _=>rfl)) (qi
    (a0c h4 (l9 hS2) rfl (fun _=>rfl) (fun _=>rfl)) (qi qo zc))))))
 cut:=fun {x cs os h lo n0 keep S} m H hS hge=>by
  obtain ⟨v2,c2,v3,c3,v4,c4,h2,h3,h4,rfl,rfl⟩:=H
  have hS2:Sep h lo (c2++(c3++(c4++S))):=(by simpa only [l5] using hS)
  exact (qi rfl (qi rfl (qi (SlF.cut h2 hS2 hge rfl (fun _=>rfl) (fun _=>rfl)) (qi (SlF.cut h3 (n7 hS2) hge rfl (fun _=>rfl) (fun _=>rfl)) (qi
    (SlF.cut h4 (l9 hS2) hge rfl (fun _=>rfl) (fun _=>rfl)) (qi rfl zc))))))
 free:=fun {x cs os} H=>by
  obtain ⟨v2,c2,v3,c3,v4,c4,h2,h3,h4,rfl,rfl⟩:=H
  exact (qm rfl (qm rfl (qm (a0n h2) (qm (a0n h3) (qm (a0n h4) (qm rfl zq))))))
 pf:=fun {x cs os} H=>by
  obtain ⟨v2,c2,v3,c3,v4,c4,h2,h3,h4,rfl,rfl⟩:=H
  exact (jz (a1j h2 (fun _=>rfl)) (jz (a1j h3 (fun _=>rfl)) (a1j h4 (fun _=>rfl))))
theorem qjq {W:Nat→Bool}{h:Heap}{lo:Nat→Prop}{S0:List Obj} (hW:∀ b,
  lo b→W b=true) (pv0:XV) (pc0:List Obj) (s_0:List Int) (ph0:SlF cI 1 3 pv0 s_0 pc0) (i_1:Int) (pv2:XV) (pc2:List Obj) (v_2:List Int)
  (ph2:SlF cI 1 3 pv2 v_2 pc2) (r:List Int × List Int) (hF:qds s_0 i_1 v_2=some r) (hS:Sep h lo (pc0++(pc2++S0))) : Ret E W 104 [pv0,.int .i64 i_1,
  pv2] h (fun v h'=>∃ rv0 rc0 ic2,v=rv0∧SlF cI 1 3 rv0 r.1 rc0∧SlF cI 1 3 pv2 r.2 ic2∧Sep h' lo (rc0++(ic2++S0))):=zbu rfl rfl hW ph0 ph2 hF hS
theorem qji {W:Nat→Bool}{h:Heap} (hW:∀ b,
  (geL h.length) b→W b=true) (k:Nat) (a_0:List Int) (b_1:List Int) (r:Bool) (hF:qcl k a_0 b_1=some r) : Ret E W 20 [lst cI a_0,
  lst cI b_1] h (fun v h'=>cut h.length h' E.sz false 9 v=some (.bool r)):=by
 refine Ret.of (fn:=x20) rfl (Run.of ?_)
 unfold qcl at hF
 have zf0:zb [lst cI a_0,lst cI b_1] 0=lst cI a_0:=rfl
 have zf1:zb [lst cI a_0,lst cI b_1] 1=lst cI b_1:=rfl
 generalize zb [lst cI a_0,lst cI b_1]=fr0 at zf0 zf1 ⊢
 have hS:Sep h (geL h.length) []:=a0k h
 simp only [x20,qc,qd,qf,qa,q23,zf0,zy,qb,jd,zf1,qz,ya,q9,B0,reduceIte,a9]
 refine qy (t:=(decide ((f0 a_0:Int)≠(f0 b_1:Int)))) (fun hc1=>?_) (fun hc1=>?_)
 ·rw [iteT hc1] at hF
  simp only [qc,qd,qf,qa,qx,B0,reduceIte,a9]
  have he:=qj hF
  subst he
  simp only [q8,B0,reduceIte,a9]
  exact rfl
 rw [iteF hc1] at hF
 simp only [zh,q1w,qc,qd,qf,qa,B0,reduceIte,a9]
 obtain ⟨oc6,hX8,hk9⟩:=ka hF
 simp only [q4w]
 refine w5 (σ:=Int) (fun s38=>qbm a_0 b_1 s38) (fun s fr' h'=>fr' 0=lst cI a_0∧fr' 1=lst cI b_1∧fr' 5 = .int .i64 s∧Sep h' (geL h.length)
   ([])) hX8 ⟨zf0,zf1,rfl,hS⟩ (fun _ _ _ h=>h) ?_ ?_
 ·rintro s3 fr18 h19 ⟨f21,f22,f23,hS20⟩ oc7 hF10 hr11 Q12 hN13 hK14 hR15 hE16
  unfold qbm at hF10
  simp only [qy0,qc,qd,f23,qf,f21,zy,qb,jd,qz,kq,qa,q9,B0,reduceIte,a9]
  refine qy (t:=(decide (s3<(f0 a_0:Int)))) (fun hc25=>?_) (fun hc25=>?_)
  ·rw [iteT hc25] at hF10
   obtain ⟨x26,hx27,hF28⟩:=qk hF10
   simp only [zh,q68,qc,kz,q1h,js,f21,zr,ql,f23,yz,B0,reduceIte,a9]
   refine qu (v := .ref (cI x26) 0) (kx hx27 rfl) ?_
   simp only [zt,B0,reduceIte,a9]
   refine qu (v := .int .i64 x26) rfl ?_
   obtain ⟨x29,hx30,hF31⟩:=qk hF28
   simp only [f22,zr,ql,f23,yz,B0,reduceIte,a9]
   refine qu (v := .ref (cI x29) 0) (kx hx30 rfl) ?_
   simp only [zt,B0,reduceIte,a9]
   refine qu (v := .int .i64 x29) rfl ?_
   simp only [k5,ql,ya,za,q9,B0,reduceIte,a9]
   refine qy (t:=(decide (x26≠x29))) (fun hc32=>?_) (fun hc32=>?_)
   ·rw [iteT hc32] at hF31
    simp only [qc,qd,qf,qa,qx,B0,reduceIte,a9]
    have e33:=qj hF31
    subst e33
    have ho34:=hr11 _ rfl
    have hk35:=hk9
    rw [ho34] at hk35
    dsimp only [jnO] at hk35
    apply hR15
    have he:=qj hk35
    subst he
    simp only [q8,B0,reduceIte,a9]
    exact rfl
   rw [iteF hc32] at hF31
   simp only [zh,yl,qd,f23,qf,qz,qb,wn,qa,qp,B0,reduceIte,a9]
   have e36:=qj hF31
   exact hN13 _ _ _ e36.symm ⟨f21,f22,rfl,hS20⟩
  rw [iteF hc25] at hF10
  simp only [yy,yn,wh,B0,reduceIte,a9]
  have e37:=qj hF10
  exact hK14 _ _ _ e37.symm ⟨f21,f22,f23,hS20⟩
 rintro s39 fr40 h41 rfl ⟨f43,f44,f45,hS42⟩
 dsimp only [jnO] at hk9
 unfold qii at hk9
 simp only [qc,qd,qf,qa,qx,B0,reduceIte,a9]
 have he:=qj hk9
 subst he
 simp only [q8,B0,reduceIte,a9]
 exact rfl
theorem qjj {W:Nat→Bool}{h:Heap} (hW:∀ b,
  (geL h.length) b→W b=true) (k:Nat) (a_0:View) (b_1:View) (r:Bool) (hF:qck k a_0 b_1=some r) : Ret E W 41 [.agg [.int .i64 a_0.Epoch,
  .int .i64 a_0.Leader,lst cI a_0.InStep],.agg [.int .i64 b_1.Epoch,.int .i64 b_1.Leader,
  lst cI b_1.InStep]] h (fun v h'=>cut h.length h' E.sz false 9 v=some (.bool r)):=by
 refine Ret.of (fn:=x41) rfl (Run.of ?_)
 unfold qck at hF
 have zf0:zb [.agg [.int .i64 a_0.Epoch,.int .i64 a_0.Leader,lst cI a_0.InStep],.agg [.int .i64 b_1.Epoch,.int .i64 b_1.Leader,
   lst cI b_1.InStep]] 0 = .agg [.int .i64 a_0.Epoch,.int .i64 a_0.Leader,lst cI a_0.InStep]:=rfl
 have zf1:zb [.agg [.int .i64 a_0.Epoch,.int .i64 a_0.Leader,lst cI a_0.InStep],.agg [.int .i64 b_1.Epoch,.int .i64 b_1.Leader,
   lst cI b_1.InStep]] 1 = .agg [.int .i64 b_1.Epoch,.int .i64 b_1.Leader,lst cI b_1.InStep]:=rfl
 generalize zb [.agg [.int .i64 a_0.Epoch,.int .i64 a_0.Leader,lst cI a_0.InStep],.agg [.int .i64 b_1.Epoch,.int .i64 b_1.Leader,lst cI b_1.InStep]]=fr0 at zf0 zf1 ⊢
 have hS:Sep h (geL h.length) []:=a0k h
 simp only [x41,qc,qd,jp,zf0,B0,reduceIte,a9]
 refine je (cs:=[.int .i64 a_0.Epoch,.int .i64 a_0.Leader,lst cI a_0.InStep]) hS rfl rfl rfl (fun b1 h2 hS3=>?_)
 simp only [jp,zf1,B0,reduceIte,a9]
 refine je (cs:=[.int .i64 b_1.Epoch,.int .i64 b_1.Leader,lst cI b_1.InStep]) hS3 rfl rfl rfl (fun b5 h6 hS7=>?_)
 simp only [qf,qa,B0,reduceIte,a9]
 refine zx (n7 hS7) hW (by simp only [B0,reduceIte,a9]) (fun h9 hS10=>?_)
 refine zx hS10 hW (by simp only [B0,reduceIte,a9]) (fun h11 hS12=>?_)
 simp only [zw,qzd,qc,qd,qt,qb,d8,d9,e8,qs,qn,B0,reduceIte,a9]
 refine qh (v := .int .i64 a_0.Epoch) rfl ?_
 simp only [qt,qb,d8,d9,e8,qs,qn,B0,reduceIte,a9]
 refine qh (v := .int .i64 b_1.Epoch) rfl ?_
 simp only [qz,qb,ya,qa,q9,B0,reduceIte,a9]
 refine qy (t:=(decide (a_0.Epoch≠b_1.Epoch))) (fun hc13=>?_) (fun hc13=>?_)
 ·rw [iteT hc13] at hF
  simp only [qc,qd,qf,qa,qx,B0,reduceIte,a9]
  have he:=qj hF
  subst he
  simp only [q8,B0,reduceIte,a9]
  exact rfl
 rw [iteF hc13] at hF
 simp only [zh,q01,qc,qd,qt,qb,d8,d9,e8,qs,qn,B0,reduceIte,a9]
 refine qh (v := .int .i64 a_0.Leader) rfl ?_
 simp only [qt,qb,d8,d9,e8,qs,qn,B0,reduceIte,a9]
 refine qh (v := .int .i64 b_1.Leader) rfl ?_
 simp only [qz,qb,ya,qa,q9,B0,reduceIte,a9]
 refine qy (t:=(decide (a_0.Leader≠b_1.Leader))) (fun hc14=>?_) (fun hc14=>?_)
 ·rw [iteT hc14] at hF
  simp only [qc,qd,qf,qa,qx,B0,reduceIte,a9]
  have he:=qj hF
  subst he
  simp only [q8,B0,reduceIte,a9]
  exact rfl
 rw [iteF hc14] at hF
 simp only [zh,q1b,qc,qd,qt,qb,d8,d9,e8,qs,qn,B0,reduceIte,a9]
 refine qh (v:=lst cI a_0.InStep) rfl ?_
 simp only [qt,qb,d8,d9,e8,qs,qn,B0,reduceIte,a9]
 refine qh (v:=lst cI b_1.InStep) rfl ?_
 obtain ⟨v15,hx16,hF17⟩:=qk hF
 simp only [zg,B0,reduceIte,a9]
 refine jo rfl (qi zk (qi zk zc)) (qji (fun b hb=>decide_eq_true hb) k a_0.InStep b_1.InStep v15 hx16) ?_
 simp only [j8,qb,ko,qa,q9,B0,reduceIte,a9]
 refine qy (t:=(!v15)) (fun hc18=>?_) (fun hc18=>?_)
 ·rw [iteT hc18] at hF17
  simp only [qc,qd,qf,qa,qx,B0,reduceIte,a9]
  have he:=qj hF17
  subst he
  simp only [q8,B0,reduceIte,a9]
  exact rfl
 rw [iteF hc18] at hF17
 simp only [zh,qc,qd,qf,qa,qx,B0,reduceIte,a9]
 have he:=qj hF17
 subst he
 simp only [q8,B0,reduceIte,a9]
 exact rfl
theorem qpq {W:Nat→Bool}{h:Heap} (hW:∀ b,
  (geL h.length) b→W b=true) (a_0:Row) (b_1:Row) (r:Bool) (hF:qez a_0 b_1=some r) : Ret E W 69 [.agg [.int .i64 a_0.Epoch,.int .i64 a_0.Value],
  .agg [.int .i64 b_1.Epoch,.int .i64 b_1.Value]] h (fun v h'=>cut h.length h' E.sz false 9 v=some (.bool r)):=by
 refine Ret.of (fn:=x69) rfl (Run.of ?_)
 unfold qez at hF
 have zf0:zb [.agg [.int .i64 a_0.Epoch,.int .i64 a_0.Value],.agg [.int .i64 b_1.Epoch,.int .i64 b_1.Value]] 0 = .agg [.int .i64 a_0.Epoch,.int .i64 a_0.Value]:=rfl
 have zf1:zb [.agg [.int .i64 a_0.Epoch,.int .i64 a_0.Value],.agg [.int .i64 b_1.Epoch,.int .i64 b_1.Value]] 1 = .agg [.int .i64 b_1.Epoch,.int .i64 b_1.Value]:=rfl
 generalize zb [.agg [.int .i64 a_0.Epoch,.int .i64 a_0.Value],.agg [.int .i64 b_1.Epoch,.int .i64 b_1.Value]]=fr0 at zf0 zf1 ⊢
 have hS:Sep h (geL h.length) []:=a0k h
 simp only [x69,qc,qd,jp,zf0,B0,reduceIte,a9]
 refine je (cs:=[.int .i64 a_0.Epoch,.int .i64 a_0.Value]) hS rfl rfl rfl (fun b1 h2 hS3=>?_)
 simp only [jp,zf1,B0,reduceIte,a9]
 refine je (cs:=[.int .i64 b_1.Epoch,.int .i64 b_1.Value]) hS3 rfl rfl rfl (fun b5 h6 hS7=>?_)
 simp only [qf,qa,B0,reduceIte,a9]
 refine zx (n7 hS7) hW (by simp only [B0,reduceIte,a9]) (fun h9 hS10=>?_)
 refine zx hS10 hW (by simp only [B0,reduceIte,a9]) (fun h11 hS12=>?_)
 simp only [zw,q5h,qc,qd,qt,qb,d8,d9,e8,qs,qn,B0,reduceIte,a9]
 refine qh (v := .int .i64 a_0.Epoch) rfl ?_
 simp only [qt,qb,d8,d9,e8,qs,qn,B0,reduceIte,a9]
 refine qh (v := .int .i64 b_1.Epoch) rfl ?_
 simp only [qz,qb,ya,qa,q9,B0,reduceIte,a9]
 refine qy (t:=(decide (a_0.Epoch≠b_1.Epoch))) (fun hc13=>?_) (fun hc13=>?_)
 ·rw [iteT hc13] at hF
  simp only [qc,qd,qf,qa,qx,B0,reduceIte,a9]
  have he:=qj hF
  subst he
  simp only [q8,B0,reduceIte,a9]
  exact rfl
 rw [iteF hc13] at hF
 simp only [zh,q7p,qc,qd,qt,qb,d8,d9,e8,qs,qn,B0,reduceIte,a9]
 refine qh (v := .int .i64 a_0.Value) rfl ?_
 simp only [qt,qb,d8,d9,e8,qs,qn,B0,reduceIte,a9]
 refine qh (v := .int .i64 b_1.Value) rfl ?_
 simp only [qz,qb,ya,qa,q9,B0,reduceIte,a9]
 refine qy (t:=(decide (a_0.Value≠b_1.Value))) (fun hc14=>?_) (fun hc14=>?_)
 ·rw [iteT hc14] at hF
  simp only [qc,qd,qf,qa,qx,B0,reduceIte,a9]
  have he:=qj hF
  subst he
  simp only [q8,B0,reduceIte,a9]
  exact rfl
 rw [iteF hc14] at hF
 simp only [zh,qc,qd,qf,qa,qx,B0,reduceIte,a9]
 have he:=qj hF
 subst he
 simp only [q8,B0,reduceIte,a9]
 exact rfl
theorem qjk {W:Nat→Bool}{h:Heap} (hW:∀ b,
  (geL h.length) b→W b=true) (k:Nat) (a_0:List Row) (b_1:List Row) (r:Bool) (hF:qci k a_0 b_1=some r) : Ret E W 43 [lst qg a_0,
  lst qg b_1] h (fun v h'=>cut h.length h' E.sz false 9 v=some (.bool r)):=by
 refine Ret.of (fn:=x43) rfl (Run.of ?_)
 unfold qci at hF
 have zf0:zb [lst qg a_0,lst qg b_1] 0=lst qg a_0:=rfl
 have zf1:zb [lst qg a_0,lst qg b_1] 1=lst qg b_1:=rfl
 generalize zb [lst qg a_0,lst qg b_1]=fr0 at zf0 zf1 ⊢
 have hS:Sep h (geL h.length) []:=a0k h
 simp only [x43,qc,qd,qf,qa,q6q,zf0,zy,qb,jd,zf1,qz,ya,q9,B0,reduceIte,a9]
 refine qy (t:=(decide ((f0 a_0:Int)≠(f0 b_1:Int)))) (fun hc1=>?_) (fun hc1=>?_)
 ·rw [iteT hc1] at hF
  simp only [qc,qd,qf,qa,qx,B0,reduceIte,a9]
  have he:=qj hF
  subst he
  simp only [q8,B0,reduceIte,a9]
  exact rfl
 rw [iteF hc1] at hF
 simp only [zh,q1s,qc,qd,qf,qa,B0,reduceIte,a9]
 obtain ⟨oc6,hX8,hk9⟩:=ka hF
 simp only [q7w]
 refine w5 (σ:=Int) (fun s41=>qbw a_0 b_1 s41) (fun s fr' h'=>fr' 0=lst qg a_0∧fr' 1=lst qg b_1∧fr' 5 = .int .i64 s∧Sep h'
   (geL h.length) ([])) hX8 ⟨zf0,zf1,rfl,hS⟩ (fun _ _ _ h=>h) ?_ ?_
 ·rintro s3 fr18 h19 ⟨f21,f22,f23,hS20⟩ oc7 hF10 hr11 Q12 hN13 hK14 hR15 hE16
  unfold qbw at hF10
  simp only [qy6,qc,qd,f23,qf,f21,zy,qb,jd,qz,kq,qa,q9,B0,reduceIte,a9]
  refine qy (t:=(decide (s3<(f0 a_0:Int)))) (fun hc25=>?_) (fun hc25=>?_)
  ·rw [iteT hc25] at hF10
   obtain ⟨x26,hx27,hF28⟩:=qk hF10
   simp only [zh,q5p,qc,kz,q38,js,f21,zr,ql,f23,yz,B0,reduceIte,a9]
   refine qu (v := .ref (qg x26) 0) (kx hx27 rfl) ?_
   simp only [zt,B0,reduceIte,a9]
   refine qu (v := .agg [.int .i64 x26.Epoch,.int .i64 x26.Value]) rfl ?_
   obtain ⟨x29,hx30,hF31⟩:=qk hF28
   simp only [f22,zr,ql,f23,yz,B0,reduceIte,a9]
   refine qu (v := .ref (qg x29) 0) (kx hx30 rfl) ?_
   simp only [zt,B0,reduceIte,a9]
   refine qu (v := .agg [.int .i64 x29.Epoch,.int .i64 x29.Value]) rfl ?_
   obtain ⟨v32,hx33,hF34⟩:=qk hF31
   simp only [ki,B0,reduceIte,a9]
   refine uy rfl (qi (zv (qi qo (qi qo zc))) (qi (zv (qi qo (qi qo zc))) zc)) (qpq
     (fun b hb=>decide_eq_true hb) x26 x29 v32 hx33) ?_
   simp only [qcx,ql,ko,za,q9,B0,reduceIte,a9]
   refine qy (t:=(!v32)) (fun hc35=>?_) (fun hc35=>?_)
   ·rw [iteT hc35] at hF34
    simp only [qc,qd,qf,qa,qx,B0,reduceIte,a9]
    have e36:=qj hF34
    subst e36
    have ho37:=hr11 _ rfl
    have hk38:=hk9
    rw [ho37] at hk38
    dsimp only [jnO] at hk38
    apply hR15
    have he:=qj hk38
    subst he
    simp only [q8,B0,reduceIte,a9]
    exact rfl
   rw [iteF hc35] at hF34
   simp only [zh,yl,qd,f23,qf,qz,qb,wn,qa,qp,B0,reduceIte,a9]
   have e39:=qj hF34
   exact hN13 _ _ _ e39.symm ⟨f21,f22,rfl,hS20⟩
  rw [iteF hc25] at hF10
  simp only [yy,yn,wh,B0,reduceIte,a9]
  have e40:=qj hF10
  exact hK14 _ _ _ e40.symm ⟨f21,f22,f23,hS20⟩
 rintro s42 fr43 h44 rfl ⟨f46,f47,f48,hS45⟩
 dsimp only [jnO] at hk9
 unfold qia at hk9
 simp only [qc,qd,qf,qa,qx,B0,reduceIte,a9]
 have he:=qj hk9
 subst he
 simp only [q8,B0,reduceIte,a9]
 exact rfl
theorem qn6 {W:Nat→Bool}{h:Heap} (hW:∀ b,
  (geL h.length) b→W b=true) (k:Nat) (a_0:Node) (b_1:Node) (r:Bool) (hF:qdw k a_0 b_1=some r) : Ret E W 68 [.agg [.int .i64 a_0.View.Epoch,
  .int .i64 a_0.View.Leader,lst cI a_0.View.InStep,lst qg a_0.Log,lst cI a_0.Known,.int .i64 a_0.Told],.agg [.int .i64 b_1.View.Epoch,.int .i64 b_1.View.Leader,
  lst cI b_1.View.InStep,lst qg b_1.Log,lst cI b_1.Known,.int .i64 b_1.Told]] h (fun v h'=>cut h.length h' E.sz false 9 v=some (.bool r)):=by
 refine Ret.of (fn:=x68) rfl (Run.of ?_)
 unfold qdw at hF
 have zf0:zb [.agg [.int .i64 a_0.View.Epoch,.int .i64 a_0.View.Leader,lst cI a_0.View.InStep,lst qg a_0.Log,lst cI a_0.Known,.int .i64 a_0.Told],
   .agg [.int .i64 b_1.View.Epoch,.int .i64 b_1.View.Leader,lst cI b_1.View.InStep,lst qg b_1.Log,lst cI b_1.Known,
   .int .i64 b_1.Told]] 0 = .agg [.int .i64 a_0.View.Epoch,.int .i64 a_0.View.Leader,lst cI a_0.View.InStep,lst qg a_0.Log,lst cI a_0.Known,
   .int .i64 a_0.Told]:=rfl
 have zf1:zb [.agg [.int .i64 a_0.View.Epoch,.int .i64 a_0.View.Leader,lst cI a_0.View.InStep,lst qg a_0.Log,lst cI a_0.Known,.int .i64 a_0.Told],
   .agg [.int .i64 b_1.View.Epoch,.int .i64 b_1.View.Leader,lst cI b_1.View.InStep,lst qg b_1.Log,lst cI b_1.Known,
   .int .i64 b_1.Told]] 1 = .agg [.int .i64 b_1.View.Epoch,.int .i64 b_1.View.Leader,lst cI b_1.View.InStep,lst qg b_1.Log,lst cI b_1.Known,
   .int .i64 b_1.Told]:=rfl
 generalize zb [.agg [.int .i64 a_0.View.Epoch,.int .i64 a_0.View.Leader,lst cI a_0.View.InStep,lst qg a_0.Log,lst cI a_0.Known,.int .i64 a_0.Told],
   .agg [.int .i64 b_1.View.Epoch,.int .i64 b_1.View.Leader,lst cI b_1.View.InStep,lst qg b_1.Log,lst cI b_1.Known,.int .i64 b_1.Told]]=fr0 at zf0 zf1 ⊢
 have hS:Sep h (geL h.length) []:=a0k h
 simp only [x68,qc,qd,jp,zf0,B0,reduceIte,a9]
 refine je (cs:=[.int .i64 a_0.View.Epoch,.int .i64 a_0.View.Leader,lst cI a_0.View.InStep,lst qg a_0.Log,lst cI a_0.Known,
   .int .i64 a_0.Told]) hS rfl rfl rfl (fun b1 h2 hS3=>?_)
 simp only [jp,zf1,B0,reduceIte,a9]
 refine je (cs:=[.int .i64 b_1.View.Epoch,.int .i64 b_1.View.Leader,lst cI b_1.View.InStep,lst qg b_1.Log,lst cI b_1.Known,
   .int .i64 b_1.Told]) hS3 rfl rfl rfl (fun b5 h6 hS7=>?_)
 simp only [qf,qa,B0,reduceIte,a9]
 refine zx (n7 hS7) hW (by simp only [B0,reduceIte,a9]) (fun h9 hS10=>?_)
 refine zx hS10 hW (by simp only [B0,reduceIte,a9]) (fun h11 hS12=>?_)
 simp only [zw,q7g,qc,qd,qt,qb,d8,d9,e8,qs,qn,B0,reduceIte,a9]
 refine qh (v := .agg [.int .i64 a_0.View.Epoch,.int .i64 a_0.View.Leader,lst cI a_0.View.InStep]) rfl ?_
 simp only [qt,qb,d8,d9,e8,qs,qn,B0,reduceIte,a9]
 refine qh (v := .agg [.int .i64 b_1.View.Epoch,.int .i64 b_1.View.Leader,lst cI b_1.View.InStep]) rfl ?_
 obtain ⟨v13,hx14,hF15⟩:=qk hF
 simp only [zg,B0,reduceIte,a9]
 refine jo rfl (qi (zv (qi qo (qi qo (qi zk zc)))) (qi (zv (qi qo (qi qo (qi zk zc)))) zc))
   (qjj (fun b hb=>decide_eq_true hb) k a_0.View b_1.View v13 hx14) ?_
 simp only [j8,qb,ko,qa,q9,B0,reduceIte,a9]
 refine qy (t:=(!v13)) (fun hc16=>?_) (fun hc16=>?_)
 ·rw [iteT hc16] at hF15
  simp only [qc,qd,qf,qa,qx,B0,reduceIte,a9]
  have he:=qj hF15
  subst he
  simp only [q8,B0,reduceIte,a9]
  exact rfl
 rw [iteF hc16] at hF15
 simp only [zh,q69,qc,qd,qt,qb,d8,d9,e8,qs,qn,B0,reduceIte,a9]
 refine qh (v:=lst qg a_0.Log) rfl ?_
 simp only [qt,qb,d8,d9,e8,qs,qn,B0,reduceIte,a9]
 refine qh (v:=lst qg b_1.Log) rfl ?_
 obtain ⟨v17,hx18,hF19⟩:=qk hF15
 simp only [zg,B0,reduceIte,a9]
 refine jo rfl (qi zk (qi zk zc)) (qjk (fun b hb=>decide_eq_true hb) k a_0.Log b_1.Log v17 hx18) ?_
 simp only [j8,qb,ko,qa,q9,B0,reduceIte,a9]
 refine qy (t:=(!v17)) (fun hc20=>?_) (fun hc20=>?_)
 ·rw [iteT hc20] at hF19
  simp only [qc,qd,qf,qa,qx,B0,reduceIte,a9]
  have he:=qj hF19
  subst he
  simp only [q8,B0,reduceIte,a9]
  exact rfl
 rw [iteF hc20] at hF19
 simp only [zh,qyu,qc,qd,qt,qb,d8,d9,e8,qs,qn,B0,reduceIte,a9]
 refine qh (v:=lst cI a_0.Known) rfl ?_
 simp only [qt,qb,d8,d9,e8,qs,qn,B0,reduceIte,a9]
 refine qh (v:=lst cI b_1.Known) rfl ?_
 obtain ⟨v21,hx22,hF23⟩:=qk hF19
 simp only [zg,B0,reduceIte,a9]
 refine jo rfl (qi zk (qi zk zc)) (qji (fun b hb=>decide_eq_true hb) k a_0.Known b_1.Known v21 hx22) ?_
 simp only [j8,qb,ko,qa,q9,B0,reduceIte,a9]
 refine qy (t:=(!v21)) (fun hc24=>?_) (fun hc24=>?_)
 ·rw [iteT hc24] at hF23
  simp only [qc,qd,qf,qa,qx,B0,reduceIte,a9]
  have he:=qj hF23
  subst he
  simp only [q8,B0,reduceIte,a9]
  exact rfl
 rw [iteF hc24] at hF23
 simp only [zh,q1p,qc,qd,qt,qb,d8,d9,e8,qs,qn,B0,reduceIte,a9]
 refine qh (v := .int .i64 a_0.Told) rfl ?_
 simp only [qt,qb,d8,d9,e8,qs,qn,B0,reduceIte,a9]
 refine qh (v := .int .i64 b_1.Told) rfl ?_
 simp only [qz,qb,ya,qa,q9,B0,reduceIte,a9]
 refine qy (t:=(decide (a_0.Told≠b_1.Told))) (fun hc25=>?_) (fun hc25=>?_)
 ·rw [iteT hc25] at hF23
  simp only [qc,qd,qf,qa,qx,B0,reduceIte,a9]
  have he:=qj hF23
  subst he
  simp only [q8,B0,reduceIte,a9]
  exact rfl
 rw [iteF hc25] at hF23
 simp only [zh,qc,qd,qf,qa,qx,B0,reduceIte,a9]
 have he:=qj hF23
 subst he
 simp only [q8,B0,reduceIte,a9]
 exact rfl
theorem qm8 {W:Nat→Bool}{h:Heap} (hW:∀ b,
  (geL h.length) b→W b=true) (k:Nat) (a_0:List Node) (b_1:List Node) (r:Bool) (hF:qc4 k a_0 b_1=some r) : Ret E W 42 [lst qq a_0,
  lst qq b_1] h (fun v h'=>cut h.length h' E.sz false 9 v=some (.bool r)):=by
 refine Ret.of (fn:=x42) rfl (Run.of ?_)
 unfold qc4 at hF
 have zf0:zb [lst qq a_0,lst qq b_1] 0=lst qq a_0:=rfl
 have zf1:zb [lst qq a_0,lst qq b_1] 1=lst qq b_1:=rfl
 generalize zb [lst qq a_0,lst qq b_1]=fr0 at zf0 zf1 ⊢
 have hS:Sep h (geL h.length) []:=a0k h
 simp only [x42,qc,qd,qf,qa,qyx,zf0,zy,qb,jd,zf1,qz,ya,q9,B0,reduceIte,a9]
 refine qy (t:=(decide ((f0 a_0:Int)≠(f0 b_1:Int)))) (fun hc1=>?_) (fun hc1=>?_)
 ·rw [iteT hc1] at hF
  simp only [qc,qd,qf,qa,qx,B0,reduceIte,a9]
  have he:=qj hF
  subst he
  simp only [q8,B0,reduceIte,a9]
  exact rfl
 rw [iteF hc1] at hF
 simp only [zh,q7n,qc,qd,qf,qa,B0,reduceIte,a9]
 obtain ⟨oc6,hX8,hk9⟩:=ka hF
 simp only [q5f]
 refine w5 (σ:=Int) (fun s41=>qa3 k a_0 b_1 s41) (fun s fr' h'=>fr' 0=lst qq a_0∧fr' 1=lst qq b_1∧fr' 5 = .int .i64 s∧Sep h'
   (geL h.length) ([])) hX8 ⟨zf0,zf1,rfl,hS⟩ (fun _ _ _ h=>h) ?_ ?_
 ·rintro s3 fr18 h19 ⟨f21,f22,f23,hS20⟩ oc7 hF10 hr11 Q12 hN13 hK14 hR15 hE16
  unfold qa3 at hF10
  simp only [q54,qc,qd,f23,qf,f21,zy,qb,jd,qz,kq,qa,q9,B0,reduceIte,a9]
  refine qy (t:=(decide (s3<(f0 a_0:Int)))) (fun hc25=>?_) (fun hc25=>?_)
  ·rw [iteT hc25] at hF10
   obtain ⟨x26,hx27,hF28⟩:=qk hF10
   simp only [zh,q2v,qc,kz,qzj,js,f21,zr,ql,f23,yz,B0,reduceIte,a9]
   refine qu (v := .ref (qq x26) 0) (kx hx27 rfl) ?_
   simp only [zt,B0,reduceIte,a9]
   refine qu (v := .agg [.int .i64 x26.View.Epoch,.int .i64 x26.View.Leader,lst cI x26.View.InStep,lst qg x26.Log,lst cI x26.Known,.int .i64 x26.Told]) rfl ?_
   obtain ⟨x29,hx30,hF31⟩:=qk hF28
   simp only [f22,zr,ql,f23,yz,B0,reduceIte,a9]
   refine qu (v := .ref (qq x29) 0) (kx hx30 rfl) ?_
   simp only [zt,B0,reduceIte,a9]
   refine qu (v := .agg [.int .i64 x29.View.Epoch,.int .i64 x29.View.Leader,lst cI x29.View.InStep,lst qg x29.Log,lst cI x29.Known,.int .i64 x29.Told]) rfl ?_
   obtain ⟨v32,hx33,hF34⟩:=qk hF31
   simp only [ki,B0,reduceIte,a9]
   refine uy rfl (qi (zv (qi qo (qi qo (qi zk (qi zk (qi zk (qi qo zc))))))) (qi (zv
     (qi qo (qi qo (qi zk (qi zk (qi zk (qi qo zc))))))) zc)) (qn6
     (fun b hb=>decide_eq_true hb) k x26 x29 v32 hx33) ?_
   simp only [qcx,ql,ko,za,q9,B0,reduceIte,a9]
   refine qy (t:=(!v32)) (fun hc35=>?_) (fun hc35=>?_)
   ·rw [iteT hc35] at hF34
    simp only [qc,qd,qf,qa,qx,B0,reduceIte,a9]
    have e36:=qj hF34
    subst e36
    have ho37:=hr11 _ rfl
    have hk38:=hk9
    rw [ho37] at hk38
    dsimp only [jnO] at hk38
    apply hR15
    have he:=qj hk38
    subst he
    simp only [q8,B0,reduceIte,a9]
    exact rfl
   rw [iteF hc35] at hF34
   simp only [zh,yl,qd,f23,qf,qz,qb,wn,qa,qp,B0,reduceIte,a9]
   have e39:=qj hF34
   exact hN13 _ _ _ e39.symm ⟨f21,f22,rfl,hS20⟩
  rw [iteF hc25] at hF10
  simp only [yy,yn,wh,B0,reduceIte,a9]
  have e40:=qj hF10
  exact hK14 _ _ _ e40.symm ⟨f21,f22,f23,hS20⟩
 rintro s42 fr43 h44 rfl ⟨f46,f47,f48,hS45⟩
 dsimp only [jnO] at hk9
 unfold qhl at hk9
 simp only [qc,qd,qf,qa,qx,B0,reduceIte,a9]
 have he:=qj hk9
 subst he
 simp only [q8,B0,reduceIte,a9]
 exact rfl
theorem qby {W:Nat→Bool}{h:Heap} (hW:∀ b,
  (geL h.length) b→W b=true) (k:Nat) (a_0:Cluster) (b_1:Cluster) (r:Bool) (hF:wz k a_0 b_1=some r) : Ret E W 11 [.agg [.int .i64 a_0.Truth.Epoch,
  .int .i64 a_0.Truth.Leader,lst cI a_0.Truth.InStep,lst qq a_0.Nodes,lst qg a_0.Acked],.agg [.int .i64 b_1.Truth.Epoch,.int .i64 b_1.Truth.Leader,
  lst cI b_1.Truth.InStep,lst qq b_1.Nodes,lst qg b_1.Acked]] h (fun v h'=>cut h.length h' E.sz false 9 v=some (.bool r)):=by
 refine Ret.of (fn:=x11) rfl (Run.of ?_)
 unfold wz at hF
 have zf0:zb [.agg [.int .i64 a_0.Truth.Epoch,.int .i64 a_0.Truth.Leader,lst cI a_0.Truth.InStep,lst qq a_0.Nodes,lst qg a_0.Acked],
   .agg [.int .i64 b_1.Truth.Epoch,.int .i64 b_1.Truth.Leader,lst cI b_1.Truth.InStep,lst qq b_1.Nodes,
   lst qg b_1.Acked]] 0 = .agg [.int .i64 a_0.Truth.Epoch,.int .i64 a_0.Truth.Leader,lst cI a_0.Truth.InStep,lst qq a_0.Nodes,lst qg a_0.Acked]:=rfl
 have zf1:zb [.agg [.int .i64 a_0.Truth.Epoch,.int .i64 a_0.Truth.Leader,lst cI a_0.Truth.InStep,lst qq a_0.Nodes,lst qg a_0.Acked],
   .agg [.int .i64 b_1.Truth.Epoch,.int .i64 b_1.Truth.Leader,lst cI b_1.Truth.InStep,lst qq b_1.Nodes,
   lst qg b_1.Acked]] 1 = .agg [.int .i64 b_1.Truth.Epoch,.int .i64 b_1.Truth.Leader,lst cI b_1.Truth.InStep,lst qq b_1.Nodes,lst qg b_1.Acked]:=rfl
 generalize zb [.agg [.int .i64 a_0.Truth.Epoch,.int .i64 a_0.Truth.Leader,lst cI a_0.Truth.InStep,lst qq a_0.Nodes,lst qg a_0.Acked],
   .agg [.int .i64 b_1.Truth.Epoch,.int .i64 b_1.Truth.Leader,lst cI b_1.Truth.InStep,lst qq b_1.Nodes,lst qg b_1.Acked]]=fr0 at zf0 zf1 ⊢
 have hS:Sep h (geL h.length) []:=a0k h
 simp only [x11,qc,qd,jp,zf0,B0,reduceIte,a9]
 refine je (cs:=[.int .i64 a_0.Truth.Epoch,.int .i64 a_0.Truth.Leader,lst cI a_0.Truth.InStep,lst qq a_0.Nodes,
   lst qg a_0.Acked]) hS rfl rfl rfl (fun b1 h2 hS3=>?_)
 simp only [jp,zf1,B0,reduceIte,a9]
 refine je (cs:=[.int .i64 b_1.Truth.Epoch,.int .i64 b_1.Truth.Leader,lst cI b_1.Truth.InStep,lst qq b_1.Nodes,
   lst qg b_1.Acked]) hS3 rfl rfl rfl (fun b5 h6 hS7=>?_)
 simp only [qf,qa,B0,reduceIte,a9]
 refine zx (n7 hS7) hW (by simp only [B0,reduceIte,a9]) (fun h9 hS10=>?_)
 refine zx hS10 hW (by simp only [B0,reduceIte,a9]) (fun h11 hS12=>?_)
 simp only [zw,q52,qc,qd,qt,qb,d8,d9,e8,qs,qn,B0,reduceIte,a9]
 refine qh (v := .agg [.int .i64 a_0.Truth.Epoch,.int .i64 a_0.Truth.Leader,lst cI a_0.Truth.InStep]) rfl ?_
 simp only [qt,qb,d8,d9,e8,qs,qn,B0,reduceIte,a9]
 refine qh (v := .agg [.int .i64 b_1.Truth.Epoch,.int .i64 b_1.Truth.Leader,lst cI b_1.Truth.InStep]) rfl ?_
 obtain ⟨v13,hx14,hF15⟩:=qk hF
 simp only [zg,B0,reduceIte,a9]
 refine jo rfl (qi (zv (qi qo (qi qo (qi zk zc)))) (qi (zv (qi qo (qi qo (qi zk zc)))) zc))
   (qjj (fun b hb=>decide_eq_true hb) k a_0.Truth b_1.Truth v13 hx14) ?_
 simp only [j8,qb,ko,qa,q9,B0,reduceIte,a9]
 refine qy (t:=(!v13)) (fun hc16=>?_) (fun hc16=>?_)
 ·rw [iteT hc16] at hF15
  simp only [qc,qd,qf,qa,qx,B0,reduceIte,a9]
  have he:=qj hF15
  subst he
  simp only [q8,B0,reduceIte,a9]
  exact rfl
 rw [iteF hc16] at hF15
 simp only [zh,q51,qc,qd,qt,qb,d8,d9,e8,qs,qn,B0,reduceIte,a9]
 refine qh (v:=lst qq a_0.Nodes) rfl ?_
 simp only [qt,qb,d8,d9,e8,qs,qn,B0,reduceIte,a9]
 refine qh (v:=lst qq b_1.Nodes) rfl ?_
 obtain ⟨v17,hx18,hF19⟩:=qk hF15
 simp only [zg,B0,reduceIte,a9]
 refine jo rfl (qi zk (qi zk zc)) (qm8 (fun b hb=>decide_eq_true hb) k a_0.Nodes b_1.Nodes v17 hx18) ?_
 simp only [j8,qb,ko,qa,q9,B0,reduceIte,a9]
 refine qy (t:=(!v17)) (fun hc20=>?_) (fun hc20=>?_)
 ·rw [iteT hc20] at hF19
  simp only [qc,qd,qf,qa,qx,B0,reduceIte,a9]
  have he:=qj hF19
  subst he
  simp only [q8,B0,reduceIte,a9]
  exact rfl
 rw [iteF hc20] at hF19
 simp only [zh,q2l,qc,qd,qt,qb,d8,d9,e8,qs,qn,B0,reduceIte,a9]
 refine qh (v:=lst qg a_0.Acked) rfl ?_
 simp only [qt,qb,d8,d9,e8,qs,qn,B0,reduceIte,a9]
 refine qh (v:=lst qg b_1.Acked) rfl ?_
 obtain ⟨v21,hx22,hF23⟩:=qk hF19
 simp only [zg,B0,reduceIte,a9]
 refine jo rfl (qi zk (qi zk zc)) (qjk (fun b hb=>decide_eq_true hb) k a_0.Acked b_1.Acked v21 hx22) ?_
 simp only [j8,qb,ko,qa,q9,B0,reduceIte,a9]
 refine qy (t:=(!v21)) (fun hc24=>?_) (fun hc24=>?_)
 ·rw [iteT hc24] at hF23
  simp only [qc,qd,qf,qa,qx,B0,reduceIte,a9]
  have he:=qj hF23
  subst he
  simp only [q8,B0,reduceIte,a9]
  exact rfl
 rw [iteF hc24] at hF23
 simp only [zh,qc,qd,qf,qa,qx,B0,reduceIte,a9]
 have he:=qj hF23
 subst he
 simp only [q8,B0,reduceIte,a9]
 exact rfl
theorem qey {W:Nat→Bool}{h:Heap}{lo:Nat→Prop}{S0:List Obj} (hW:∀ b,
  lo b→W b=true) (k:Nat) (pv0:XV) (pc0:List Obj) (a_0:List Int) (ph0:SlF cI 1 3 pv0 a_0 pc0) (k_1:Int) (r:Int × (List Int))
  (hF:ux k a_0 k_1=some r) (hS:Sep h lo (pc0++(S0))) : Ret E W 21 [pv0,.int .i64 k_1] h (fun v h'=>∃ ic0,
  v = .int .i64 r.1∧SlF cI 1 3 pv0 r.2 ic0∧Sep h' lo (ic0++(S0))):=by
 refine Ret.of (fn:=x21) rfl (Run.of ?_)
 unfold ux at hF
 have zf0:zb [pv0,.int .i64 k_1] 0=pv0:=rfl
 have zf1:zb [pv0,.int .i64 k_1] 1 = .int .i64 k_1:=rfl
 generalize zb [pv0,.int .i64 k_1]=fr0 at zf0 zf1 ⊢
 simp only [x21,qc,qd,qf,qa,qy7,B0,reduceIte,a9]
 obtain ⟨oc13,hX15,hk16⟩:=ka hF
 simp only [q04]
 refine w5 (σ:=Int × Int × (List Int)) (fun s45=>qap s45.1 s45.2.1 s45.2.2) (fun s fr' h'=>∃ c9,
   fr' 0=pv0∧fr' 1 = .int .i64 s.1∧fr' 5 = .int .i64 s.2.1∧SlF cI 1 3 pv0 s.2.2 c9∧Sep h' lo (c9++(S0))) hX15 ⟨pc0,zf0,zf1,rfl,ph0,hS⟩ (fun _ _ _ h=>h) ?_ ?_
 ·rintro ⟨s6,s7,s8⟩ fr25 h26 ⟨c9,f28,f29,f30,hv10,hS27⟩ oc14 hF17 hr18 Q19 hN20 hK21 hR22 hE23
  dsimp only at *
  unfold qap at hF17
  simp only [q15,qc,qd,f30,qf,f28,zy,qb,SlF.plen hv10,qz,kq,qa,q9,B0,reduceIte,a9]
  refine qy (t:=(decide (s7<(f0 s8:Int)))) (fun hc32=>?_) (fun hc32=>?_)
  ·rw [iteT hc32] at hF17
   obtain ⟨x33,hx34,hF35⟩:=qk hF17
   simp only [zh,q63,qc,kz,q2w,qd,f28,qf,f30,f29,jl,B0,reduceIte,a9]
   obtain ⟨b36,hb37⟩:=a04 hv10 (j9 hx34)
   refine qh (a16 hv10 hb37 hx34) ?_
   simp only [zp,B0,reduceIte,a9]
   refine qb5 (f:=cI) (x':=s6) (o:=0) hv10 hS27 hW hb37 hx34 (fun _=>rfl) rfl rfl (nle rfl) rfl (fun c40 h38 hv41 hS39=>?_)
   have hx42:=kj (x':=s6) hx34
   simp only [qa,qd,f29,qf,qz,qb,wn,yl,f30,qp,B0,reduceIte,a9]
   have e43:=qj hF35
   exact hN20 _ _ _ e43.symm ⟨c40,f28,rfl,rfl,hv41,hS39⟩
  rw [iteF hc32] at hF17
  simp only [yy,yn,wh,B0,reduceIte,a9]
  have e44:=qj hF17
  exact hK21 _ _ _ e44.symm ⟨c9,f28,f29,f30,hv10,hS27⟩
 rintro ⟨s46,s47,s48⟩ fr51 h52 rfl ⟨c49,f54,f55,f56,hv50,hS53⟩
 dsimp only [jnO] at hk16
 dsimp only at *
 unfold qgr at hk16
 simp only [qc,qd,f55,qf,qa,qx,B0,reduceIte,a9]
 have he:=qj hk16
 subst he
 simp only [q8,B0,reduceIte,a9]
 exact ⟨c49,by first | trivial | rfl,hv50,hS53⟩
theorem qlo {W:Nat→Bool}{h:Heap}{lo:Nat→Prop}{S0:List Obj} (hW:∀ b,
  lo b→W b=true) (k:Nat) (a_0:View) (pv0_2:XV) (pc0_2:List Obj) (ph0_2:SlF cI 1 3 pv0_2 a_0.InStep pc0_2) (k_1:Int) (r:Int × View)
  (hF:qb8 k a_0 k_1=some r) (hS:Sep h lo (pc0_2++(S0))) : Ret E W 44 [.agg [.int .i64 a_0.Epoch,.int .i64 a_0.Leader,pv0_2],
  .int .i64 k_1] h (fun v h'=>∃ ic0_2,v = .int .i64 r.1∧SlF cI 1 3 pv0_2 r.2.InStep ic0_2∧Sep h' lo (ic0_2++(S0))):=by
 refine Ret.of (fn:=x44) rfl (Run.of ?_)
 unfold qb8 at hF
 have zf0:zb [.agg [.int .i64 a_0.Epoch,.int .i64 a_0.Leader,pv0_2],.int .i64 k_1] 0 = .agg [.int .i64 a_0.Epoch,.int .i64 a_0.Leader,pv0_2]:=rfl
 have zf1:zb [.agg [.int .i64 a_0.Epoch,.int .i64 a_0.Leader,pv0_2],.int .i64 k_1] 1 = .int .i64 k_1:=rfl
 generalize zb [.agg [.int .i64 a_0.Epoch,.int .i64 a_0.Leader,pv0_2],.int .i64 k_1]=fr0 at zf0 zf1 ⊢
 simp only [x44,qc,qd,jp,zf0,B0,reduceIte,a9]
 refine je (cs:=[.int .i64 a_0.Epoch,.int .i64 a_0.Leader,pv0_2]) hS rfl rfl (qm rfl (qm rfl (qm (l7 ph0_2) zq))) (fun b1 h2 hS3=>?_)
 simp only [qf,qa,B0,reduceIte,a9]
 refine zx hS3 hW (by simp only [B0,reduceIte,a9]) (fun h5 hS6=>?_)
 simp only [zw,q6h,qc,qd,qt,qb,d8,d9,e8,qs,qn,B0,reduceIte,a9]
 refine qh (v:=pv0_2) rfl ?_
 obtain ⟨v7,hx8,hF9⟩:=qk hF
 simp only [zf1,qf,zg,B0,reduceIte,a9]
 refine y9 rfl (qey hW k pv0_2 pc0_2 a_0.InStep ph0_2 k_1 v7 hx8 hS6) ?_
 rintro _ h12 ⟨c10,rfl,hv11,hS13⟩
 simp only [qf,qa,qc,qd,qx,B0,reduceIte,a9]
 have he:=qj hF9
 subst he
 simp only [q8,B0,reduceIte,a9]
 exact ⟨c10,by first | trivial | rfl,hv11,hS13⟩
theorem qhj {W:Nat→Bool}{h:Heap}{lo:Nat→Prop}{S0:List Obj} (hW:∀ b,
  lo b→W b=true) (k:Nat) (pv0:XV) (pc0:List Obj) (a_0:List Row) (ph0:SlF qg 2 92 pv0 a_0 pc0) (k_1:Int) (r:Int × (List Row))
  (hF:qa0 k a_0 k_1=some r) (hS:Sep h lo (pc0++(S0))) : Ret E W 46 [pv0,.int .i64 k_1] h (fun v h'=>∃ ic0,
  v = .int .i64 r.1∧SlF qg 2 92 pv0 r.2 ic0∧Sep h' lo (ic0++(S0))):=by
 refine Ret.of (fn:=x46) rfl (Run.of ?_)
 unfold qa0 at hF
 have zf0:zb [pv0,.int .i64 k_1] 0=pv0:=rfl
 have zf1:zb [pv0,.int .i64 k_1] 1 = .int .i64 k_1:=rfl
 generalize zb [pv0,.int .i64 k_1]=fr0 at zf0 zf1 ⊢
 simp only [x46,qc,qd,qf,qa,q7f,B0,reduceIte,a9]
 obtain ⟨oc13,hX15,hk16⟩:=ka hF
 simp only [q1i]
 refine w5 (σ:=Int × Int × (List Row)) (fun s50=>qaf s50.1 s50.2.1 s50.2.2) (fun s fr' h'=>∃ c9,
   fr' 0=pv0∧fr' 1 = .int .i64 s.1∧fr' 5 = .int .i64 s.2.1∧SlF qg 2 92 pv0 s.2.2 c9∧Sep h' lo (c9++(S0))) hX15 ⟨pc0,zf0,zf1,rfl,ph0,
   hS⟩ (fun _ _ _ h=>h) ?_ ?_
 ·rintro ⟨s6,s7,s8⟩ fr25 h26 ⟨c9,f28,f29,f30,hv10,hS27⟩ oc14 hF17 hr18 Q19 hN20 hK21 hR22 hE23
  dsimp only at *
  unfold qaf at hF17
  simp only [q5k,qc,qd,f30,qf,f28,zy,qb,SlF.plen hv10,qz,kq,qa,q9,B0,reduceIte,a9]
  refine qy (t:=(decide (s7<(f0 s8:Int)))) (fun hc32=>?_) (fun hc32=>?_)
  ·rw [iteT hc32] at hF17
   obtain ⟨x33,hx34,hF35⟩:=qk hF17
   simp only [zh,q40,qc,kz,qz7,qd,f28,qf,f30,f29,jl,B0,reduceIte,a9]
   obtain ⟨b36,hb37⟩:=a04 hv10 (j9 hx34)
   refine qh (a16 hv10 hb37 hx34) ?_
   simp only [qt,qb,d8,d9,e8,zd,zp,B0,reduceIte,a9]
   refine qb5 (f:=qg) (x':=(Row.mk s6 x33.Value)) (o:=0) hv10 hS27 hW hb37 hx34 (fun _=>rfl) rfl rfl (nle rfl) rfl (fun c40 h38 hv41 hS39=>?_)
   have hx42:=kj (x':=(Row.mk s6 x33.Value)) hx34
   simp only [qa,q31,qc,qd,f29,qf,qz,qb,wn,q5i,f28,f30,jl,B0,reduceIte,a9]
   refine qh (a16 hv41 hb37 hx42) ?_
   simp only [qt,qb,d8,d9,e8,zd,zp,B0,reduceIte,a9]
   refine qb5 (f:=qg) (x':=(Row.mk s6 (l4 .i64 (s6+1)))) (o:=1) hv41 hS39 hW hb37 hx42 (fun _=>rfl) rfl rfl (nle rfl) rfl
     (fun c45 h43 hv46 hS44=>?_)
   rw [List.set_set] at hv46
   have hx47:=kj (x':=(Row.mk s6 (l4 .i64 (s6+1)))) hx34
   simp only [qa,qd,qf,qz,qb,wn,yl,f30,qp,B0,reduceIte,a9]
   have e48:=qj hF35
   exact hN20 _ _ _ e48.symm ⟨c45,f28,rfl,rfl,hv46,hS44⟩
  rw [iteF hc32] at hF17
  simp only [yy,yn,wh,B0,reduceIte,a9]
  have e49:=qj hF17
  exact hK21 _ _ _ e49.symm ⟨c9,f28,f29,f30,hv10,hS27⟩
 rintro ⟨s51,s52,s53⟩ fr56 h57 rfl ⟨c54,f59,f60,f61,hv55,hS58⟩
 dsimp only [jnO] at hk16
 dsimp only at *
 unfold qgq at hk16
 simp only [qc,qd,f60,qf,qa,qx,B0,reduceIte,a9]
 have he:=qj hk16
 subst he
 simp only [q8,B0,reduceIte,a9]
 exact ⟨c54,by first | trivial | rfl,hv55,hS58⟩
theorem qla {W:Nat→Bool}{h:Heap}{lo:Nat→Prop}{S0:List Obj} (hW:∀ b,
  lo b→W b=true) (k:Nat) (pv0:XV) (pc0:List Obj) (a_0:List Node) (ph0:SlN Node.R 6 68 pv0 a_0 pc0) (k_1:Int) (r:Int × (List Node))
  (hF:qbx k a_0 k_1=some r) (hS:Sep h lo (pc0++(S0))) : Ret E W 45 [pv0,.int .i64 k_1] h (fun v h'=>∃ ic0,
  v = .int .i64 r.1∧SlN Node.R 6 68 pv0 r.2 ic0∧Sep h' lo (ic0++(S0))):=by
 refine Ret.of (fn:=x45) rfl (Run.of ?_)
 unfold qbx at hF
 have zf0:zb [pv0,.int .i64 k_1] 0=pv0:=rfl
 have zf1:zb [pv0,.int .i64 k_1] 1 = .int .i64 k_1:=rfl
 generalize zb [pv0,.int .i64 k_1]=fr0 at zf0 zf1 ⊢
 simp only [x45,qc,qd,qf,qa,qwa,B0,reduceIte,a9]
 obtain ⟨oc13,hX15,hk16⟩:=ka hF
 simp only [qvs]
 refine w5 (σ:=Int × Int × (List Node)) (fun s97=>u4 k s97.1 s97.2.1 s97.2.2) (fun s fr' h'=>∃ c9,
   fr' 0=pv0∧fr' 1 = .int .i64 s.1∧fr' 5 = .int .i64 s.2.1∧SlN Node.R 6 68 pv0 s.2.2 c9∧Sep h' lo (c9++(S0))) hX15 ⟨pc0,zf0,zf1,rfl,ph0,
   hS⟩ (fun _ _ _ h=>h) ?_ ?_
 ·rintro ⟨s6,s7,s8⟩ fr25 h26 ⟨c9,f28,f29,f30,hv10,hS27⟩ oc14 hF17 hr18 Q19 hN20 hK21 hR22 hE23
  dsimp only at *
  unfold u4 at hF17
  simp only [qwp,qc,qd,f30,qf,f28,zy,qb,SlN.len hv10,qz,kq,qa,q9,B0,reduceIte,a9]
  refine qy (t:=(decide (s7<(f0 s8:Int)))) (fun hc32=>?_) (fun hc32=>?_)
  ·rw [iteT hc32] at hF17
   obtain ⟨x33,hx34,hF35⟩:=qk hF17
   simp only [zh,q2k,qc,kz,q8b,qd,f28,qf,f30,f29,jl,B0,reduceIte,a9]
   obtain ⟨b36,hb37⟩:=SlN.isrow hv10 (j9 hx34)
   refine qh (SlN.ia hv10 hb37 hx34) ?_
   obtain ⟨c40,cs41,os42,hv43,hR44,hS45⟩:=SlG.opn (SlN.toG hv10 hb37 Node.RO.len) hx34 z8 Node.RO.len hS27
   obtain ⟨v47,c48,v51,c52,v55,c56,hv49,hv53,hv57,rfl,rfl⟩:=hR44
   have hS46:=Sep.no3 hS45
   simp only [qt,qb,d8,d9,e8,zd,zp,B0,reduceIte,a9]
   refine wb (n:=6) (us:=[.int .i64 s6]) (cs:=[.int .i64 x33.View.Epoch,.int .i64 x33.View.Leader,v47,v51,v55,
     .int .i64 x33.Told]) (o:=0) (cs':=[.int .i64 s6,.int .i64 x33.View.Leader,v47,v51,v55,
     .int .i64 x33.Told]) rfl hv43 rfl hx34 hS46 hW rfl rfl (nle rfl) rfl (fun c59 h38 hv60 hS39=>?_)
   simp only [qa,q4c,qc,qd,f29,qf,qz,qb,wn,q0v,f28,f30,jl,B0,reduceIte,a9]
   refine qh (SlG.ia hv60 hx34) ?_
   simp only [qt,qb,d8,d9,e8,zd,zp,B0,reduceIte,a9]
   refine wb (n:=6) (us:=[.int .i64 (l4 .i64 (s6+1))]) (cs:=[.int .i64 s6,.int .i64 x33.View.Leader,v47,v51,v55,
     .int .i64 x33.Told]) (o:=1) (cs':=[.int .i64 s6,.int .i64 (l4 .i64 (s6+1)),v47,v51,v55,
     .int .i64 x33.Told]) rfl hv60 rfl hx34 hS39 hW rfl rfl (nle rfl) rfl (fun c63 h61 hv64 hS62=>?_)
   simp only [qa,qy9,qc,qd,qf,qz,qb,wn,qy1,f28,f30,jl,B0,reduceIte,a9]
   refine qh (SlG.ia hv64 hx34) ?_
   simp only [qt,qb,d8,d9,e8,zd,qn,B0,reduceIte,a9]
   refine qh (v:=v47) ((SlG.ld (o:=2) hv64 rfl hx34 hS62 (nle rfl)).trans rfl) ?_
   obtain ⟨v65,hx66,hF67⟩:=qk hF35
   simp only [qf,zg,B0,reduceIte,a9]
   refine y9 rfl (qey hW k v47 c48 x33.View.InStep hv49 (l4 .i64 ((l4 .i64 (s6+1))+1)) v65 hx66 (n7 hS62)) ?_
   rintro _ h70 ⟨c68,rfl,hv69,hS71⟩
   simp only [qf,qa,q19,qc,qd,f28,f30,jl,B0,reduceIte,a9]
   refine qh (SlG.ia hv64 hx34) ?_
   simp only [qt,qb,d8,d9,e8,zd,qn,B0,reduceIte,a9]
   refine qh (v:=v51) ((SlG.ld (o:=3) hv64 rfl hx34 (n7 hS71) (nle rfl)).trans rfl) ?_
   obtain ⟨v72,hx73,hF74⟩:=qk hF67
   simp only [qf,zg,B0,reduceIte,a9]
   refine y9 rfl (qhj hW k v51 c52 x33.Log hv53 v65.1 v72 hx73 (l9 hS71)) ?_
   rintro _ h77 ⟨c75,rfl,hv76,hS78⟩
   simp only [qf,qa,q36,qc,qd,f28,f30,jl,B0,reduceIte,a9]
   refine qh (SlG.ia hv64 hx34) ?_
   simp only [qt,qb,d8,d9,e8,zd,qn,B0,reduceIte,a9]
   refine qh (v:=v55) ((SlG.ld (o:=4) hv64 rfl hx34 (l9 hS78) (nle rfl)).trans rfl) ?_
   obtain ⟨v79,hx80,hF81⟩:=qk hF74
   simp only [qf,zg,B0,reduceIte,a9]
   refine y9 rfl (qey hW k v55 c56 x33.Known hv57 v72.1 v79 hx80 (l6 hS78)) ?_
   rintro _ h84 ⟨c82,rfl,hv83,hS85⟩
   simp only [qf,qa,q7a,qc,qd,f28,f30,jl,B0,reduceIte,a9]
   refine qh (SlG.ia hv64 hx34) ?_
   simp only [qt,qb,d8,d9,e8,zd,zp,B0,reduceIte,a9]
   refine wb (n:=6) (us:=[.int .i64 v79.1]) (cs:=[.int .i64 s6,.int .i64 (l4 .i64 (s6+1)),v47,v51,v55,
     .int .i64 x33.Told]) (o:=5) (cs':=[.int .i64 s6,.int .i64 (l4 .i64 (s6+1)),v47,v51,v55,
     .int .i64 v79.1]) rfl hv64 rfl hx34 (l6 hS85) hW rfl rfl (nle rfl) rfl (fun c88 h86 hv89 hS87=>?_)
   simp only [qa,qd,qf,qz,qb,wn,yl,f30,qp,B0,reduceIte,a9]
   obtain ⟨c90,hv91,hS92⟩:=SlG.cls (e':=(Node.mk (View.mk s6 (l4 .i64 (s6+1)) v65.2) v72.2 v79.2 v79.1)) (c:=c88) (os:=c68++(c75 ++
     (c82))) hv89 rfl hx34 z8 (Node.RI (x:=(Node.mk (View.mk s6 (l4 .i64 (s6+1)) v65.2) v72.2 v79.2 v79.1)) hv69 hv76 hv83) (Sep.ni3 (c1:=c68)
     (c2:=c75) (c3:=c82) (l6 (l6 (l9 (n7 hS87)))))
   have hx93:=kj (x':=(Node.mk (View.mk s6 (l4 .i64 (s6+1)) v65.2) v72.2 v79.2 v79.1)) hx34
   have hv94:=SlG.toN hv91
   have e95:=qj hF81
   exact hN20 _ _ _ e95.symm ⟨c90,f28,rfl,rfl,hv94,hS92⟩
  rw [iteF hc32] at hF17
  simp only [yy,yn,wh,B0,reduceIte,a9]
  have e96:=qj hF17
  exact hK21 _ _ _ e96.symm ⟨c9,f28,f29,f30,hv10,hS27⟩
 rintro ⟨s98,s99,s100⟩ fr103 h104 rfl ⟨c101,f106,f107,f108,hv102,hS105⟩
 dsimp only [jnO] at hk16
 dsimp only at *
 unfold qf8 at hk16
 simp only [qc,qd,f107,qf,qa,qx,B0,reduceIte,a9]
 have he:=qj hk16
 subst he
 simp only [q8,B0,reduceIte,a9]
 exact ⟨c101,by first | trivial | rfl,hv102,hS105⟩
theorem qfy {W:Nat→Bool}{h:Heap}{lo:Nat→Prop}{S0:List Obj} (hW:∀ b,
  lo b→W b=true) (k:Nat) (a_0:Cluster) (pv0_2:XV) (pc0_2:List Obj) (ph0_2:SlF cI 1 3 pv0_2 a_0.Truth.InStep pc0_2) (pv0_3:XV) (pc0_3:List Obj)
  (ph0_3:SlN Node.R 6 68 pv0_3 a_0.Nodes pc0_3) (pv0_4:XV) (pc0_4:List Obj) (ph0_4:SlF qg 2 92 pv0_4 a_0.Acked pc0_4) (k_1:Int) (r:Int × Cluster)
  (hF:xw k a_0 k_1=some r) (hS:Sep h lo (pc0_2++(pc0_3++(pc0_4++(S0))))) : Ret E W 12 [.agg [.int .i64 a_0.Truth.Epoch,.int .i64 a_0.Truth.Leader,
  pv0_2,pv0_3,pv0_4],.int .i64 k_1] h (fun v h'=>∃ ic0_2 ic0_3 ic0_4,
  v = .int .i64 r.1∧SlF cI 1 3 pv0_2 r.2.Truth.InStep ic0_2∧SlN Node.R 6 68 pv0_3 r.2.Nodes ic0_3∧SlF qg 2 92 pv0_4 r.2.Acked ic0_4∧Sep h' lo (ic0_2++(ic0_3 ++
  (ic0_4++(S0))))):=by
 refine Ret.of (fn:=x12) rfl (Run.of ?_)
 unfold xw at hF
 have zf0:zb [.agg [.int .i64 a_0.Truth.Epoch,.int .i64 a_0.Truth.Leader,pv0_2,pv0_3,pv0_4],.int .i64 k_1] 0 = .agg [.int .i64 a_0.Truth.Epoch,
   .int .i64 a_0.Truth.Leader,pv0_2,pv0_3,pv0_4]:=rfl
 have zf1:zb [.agg [.int .i64 a_0.Truth.Epoch,.int .i64 a_0.Truth.Leader,pv0_2,pv0_3,pv0_4],.int .i64 k_1] 1 = .int .i64 k_1:=rfl
 generalize zb [.agg [.int .i64 a_0.Truth.Epoch,.int .i64 a_0.Truth.Leader,pv0_2,pv0_3,pv0_4],.int .i64 k_1]=fr0 at zf0 zf1 ⊢
 simp only [x12,qc,qd,jp,zf0,B0,reduceIte,a9]
 refine je (cs:=[.int .i64 a_0.Truth.Epoch,.int .i64 a_0.Truth.Leader,pv0_2,pv0_3,
   pv0_4]) hS rfl rfl (qm rfl (qm rfl (qm (l7 ph0_2) (qm (SlN.one ph0_3) (qm (l7 ph0_4) zq))))) (fun b1 h2 hS3=>?_)
 simp only [qf,qa,B0,reduceIte,a9]
 refine zx hS3 hW (by simp only [B0,reduceIte,a9]) (fun h5 hS6=>?_)
 simp only [zw,q0q,qc,qd,qt,qb,d8,d9,e8,qs,qn,B0,reduceIte,a9]
 refine qh (v := .agg [.int .i64 a_0.Truth.Epoch,.int .i64 a_0.Truth.Leader,pv0_2]) rfl ?_
 obtain ⟨v7,hx8,hF9⟩:=qk hF
 simp only [zf1,qf,zg,B0,reduceIte,a9]
 refine y9 rfl (qlo hW k a_0.Truth pv0_2 pc0_2 ph0_2 k_1 v7 hx8 hS6) ?_
 rintro _ h12 ⟨c10,rfl,hv11,hS13⟩
 simp only [qf,qa,q6c,qc,qd,qt,qb,d8,d9,e8,qs,qn,B0,reduceIte,a9]
 refine qh (v:=pv0_3) rfl ?_
 obtain ⟨v14,hx15,hF16⟩:=qk hF9
 simp only [qf,zg,B0,reduceIte,a9]
 refine y9 rfl (qla hW k pv0_3 pc0_3 a_0.Nodes ph0_3 v7.1 v14 hx15 (n7 hS13)) ?_
 rintro _ h19 ⟨c17,rfl,hv18,hS20⟩
 simp only [qf,qa,q6l,qc,qd,qt,qb,d8,d9,e8,qs,qn,B0,reduceIte,a9]
 refine qh (v:=pv0_4) rfl ?_
 obtain ⟨v21,hx22,hF23⟩:=qk hF16
 simp only [qf,zg,B0,reduceIte,a9]
 refine y9 rfl (qhj hW k pv0_4 pc0_4 a_0.Acked ph0_4 v14.1 v21 hx22 (l9 hS20)) ?_
 rintro _ h26 ⟨c24,rfl,hv25,hS27⟩
 simp only [qf,qa,qc,qd,qx,B0,reduceIte,a9]
 have he:=qj hF23
 subst he
 simp only [q8,B0,reduceIte,a9]
 exact ⟨c10,c17,c24,by first | trivial | rfl,hv11,hv18,hv25,(l9 (n7 hS27))⟩
end Go.Proofs.Ytohofoampalhoaa.X
namespace Go.Proofs.Ytohofoampalhoaa.X
open Go
theorem qeo {W:Nat→Bool}{h:Heap} (hW:∀ b,
  (geL h.length) b→W b=true) (k:Nat) (a_0:List Int) (k_1:Int) (r:Int) (hF:uu k a_0 k_1=some r) : Ret E W 22 [lst cI a_0,
  .int .i64 k_1] h (fun v h'=>cut h.length h' E.sz false 9 v=some (.int .i64 r)):=by
 refine Ret.of (fn:=x22) rfl (Run.of ?_)
 unfold uu at hF
 have zf0:zb [lst cI a_0,.int .i64 k_1] 0=lst cI a_0:=rfl
 have zf1:zb [lst cI a_0,.int .i64 k_1] 1 = .int .i64 k_1:=rfl
 generalize zb [lst cI a_0,.int .i64 k_1]=fr0 at zf0 zf1 ⊢
 have hS:Sep h (geL h.length) []:=a0k h
 simp only [x22,qc,qd,qf,qa,qzb,B0,reduceIte,a9]
 obtain ⟨oc7,hX9,hk10⟩:=ka hF
 simp only [q4e]
 refine w5 (σ:=Int × Int) (fun s36=>qah a_0 s36.1 s36.2) (fun s fr' h'=>fr' 0=lst cI a_0∧fr' 1 = .int .i64 s.1∧fr' 5 = .int .i64 s.2∧Sep h'
   (geL h.length) ([])) hX9 ⟨zf0,zf1,rfl,hS⟩ (fun _ _ _ h=>h) ?_ ?_
 ·rintro ⟨s3,s4⟩ fr19 h20 ⟨f22,f23,f24,hS21⟩ oc8 hF11 hr12 Q13 hN14 hK15 hR16 hE17
  dsimp only at *
  unfold qah at hF11
  simp only [q5r,qc,qd,f24,qf,f22,zy,qb,jd,qz,kq,qa,q9,B0,reduceIte,a9]
  refine qy (t:=(decide (s4<(f0 a_0:Int)))) (fun hc26=>?_) (fun hc26=>?_)
  ·rw [iteT hc26] at hF11
   obtain ⟨x27,hx28,hF29⟩:=qk hF11
   simp only [zh,qzi,qc,kz,q5l,qd,f22,qf,f24,jl,B0,reduceIte,a9]
   refine qh (v := .ref (cI x27) 0) (kx hx28 rfl) ?_
   simp only [qn,B0,reduceIte,a9]
   refine qh (v := .int .i64 x27) rfl ?_
   simp only [f23,qf,qz,qb,ya,qa,q9,B0,reduceIte,a9]
   refine qy (t:=(decide (x27≠s3))) (fun hc30=>?_) (fun hc30=>?_)
   ·rw [iteT hc30] at hF29
    simp only [qc,qd,qf,qa,qx,B0,reduceIte,a9]
    have e31:=qj hF29
    subst e31
    have ho32:=hr12 _ rfl
    have hk33:=hk10
    rw [ho32] at hk33
    dsimp only [jnO] at hk33
    apply hR16
    have he:=qj hk33
    subst he
    simp only [q8,B0,reduceIte,a9]
    exact rfl
   rw [iteF hc30] at hF29
   simp only [zh,qd,f23,qf,qz,qb,wn,qa,yl,f24,qp,B0,reduceIte,a9]
   have e34:=qj hF29
   exact hN14 _ _ _ e34.symm ⟨f22,rfl,rfl,hS21⟩
  rw [iteF hc26] at hF11
  simp only [yy,yn,wh,B0,reduceIte,a9]
  have e35:=qj hF11
  exact hK15 _ _ _ e35.symm ⟨f22,f23,f24,hS21⟩
 rintro ⟨s37,s38⟩ fr39 h40 rfl ⟨f42,f43,f44,hS41⟩
 dsimp only [jnO] at hk10
 dsimp only at *
 unfold qg1 at hk10
 simp only [qc,qd,f43,qf,qa,qx,B0,reduceIte,a9]
 have he:=qj hk10
 subst he
 simp only [q8,B0,reduceIte,a9]
 exact rfl
theorem qmo {W:Nat→Bool}{h:Heap} (hW:∀ b,
  (geL h.length) b→W b=true) (k:Nat) (a_0:View) (k_1:Int) (r:Int) (hF:qcc k a_0 k_1=some r) : Ret E W 47 [.agg [.int .i64 a_0.Epoch,
  .int .i64 a_0.Leader,lst cI a_0.InStep],.int .i64 k_1] h (fun v h'=>cut h.length h' E.sz false 9 v=some (.int .i64 r)):=by
 refine Ret.of (fn:=x47) rfl (Run.of ?_)
 unfold qcc at hF
 have zf0:zb [.agg [.int .i64 a_0.Epoch,.int .i64 a_0.Leader,lst cI a_0.InStep],.int .i64 k_1] 0 = .agg [.int .i64 a_0.Epoch,.int .i64 a_0.Leader,
   lst cI a_0.InStep]:=rfl
 have zf1:zb [.agg [.int .i64 a_0.Epoch,.int .i64 a_0.Leader,lst cI a_0.InStep],.int .i64 k_1] 1 = .int .i64 k_1:=rfl
 generalize zb [.agg [.int .i64 a_0.Epoch,.int .i64 a_0.Leader,lst cI a_0.InStep],.int .i64 k_1]=fr0 at zf0 zf1 ⊢
 have hS:Sep h (geL h.length) []:=a0k h
 simp only [x47,qc,qd,jp,zf0,B0,reduceIte,a9]
 refine je (cs:=[.int .i64 a_0.Epoch,.int .i64 a_0.Leader,lst cI a_0.InStep]) hS rfl rfl rfl (fun b1 h2 hS3=>?_)
 simp only [qf,qa,B0,reduceIte,a9]
 refine zx hS3 hW (by simp only [B0,reduceIte,a9]) (fun h5 hS6=>?_)
 simp only [zw,q3e,qc,qd,qt,qb,d8,d9,e8,qs,qn,B0,reduceIte,a9]
 refine qh (v:=lst cI a_0.InStep) rfl ?_
 obtain ⟨v7,hx8,hF9⟩:=qk hF
 simp only [zf1,qf,zg,B0,reduceIte,a9]
 refine jo rfl (qi zk (qi qo zc)) (qeo (fun b hb=>decide_eq_true hb) k a_0.InStep k_1 v7 hx8) ?_
 simp only [qf,qa,q2h,qc,qd,qz,qb,kq,q9,B0,reduceIte,a9]
 refine qy (t:=(decide (v7<0))) (fun hc10=>?_) (fun hc10=>?_)
 ·rw [iteT hc10] at hF9
  simp only [qc,qd,qf,qa,qx,B0,reduceIte,a9]
  have he:=qj hF9
  subst he
  simp only [q8,B0,reduceIte,a9]
  exact rfl
 rw [iteF hc10] at hF9
 simp only [zh,qc,qd,qf,qa,qx,B0,reduceIte,a9]
 have he:=qj hF9
 subst he
 simp only [q8,B0,reduceIte,a9]
 exact rfl
theorem qhb {W:Nat→Bool}{h:Heap} (hW:∀ b,
  (geL h.length) b→W b=true) (k:Nat) (a_0:List Row) (k_1:Int) (r:Int) (hF:qay k a_0 k_1=some r) : Ret E W 49 [lst qg a_0,
  .int .i64 k_1] h (fun v h'=>cut h.length h' E.sz false 9 v=some (.int .i64 r)):=by
 refine Ret.of (fn:=x49) rfl (Run.of ?_)
 unfold qay at hF
 have zf0:zb [lst qg a_0,.int .i64 k_1] 0=lst qg a_0:=rfl
 have zf1:zb [lst qg a_0,.int .i64 k_1] 1 = .int .i64 k_1:=rfl
 generalize zb [lst qg a_0,.int .i64 k_1]=fr0 at zf0 zf1 ⊢
 have hS:Sep h (geL h.length) []:=a0k h
 simp only [x49,qc,qd,qf,qa,q4r,B0,reduceIte,a9]
 obtain ⟨oc7,hX9,hk10⟩:=ka hF
 simp only [q2t]
 refine w5 (σ:=Int × Int) (fun s43=>qal a_0 s43.1 s43.2)
   (fun s fr' h'=>fr' 0=lst qg a_0∧fr' 1 = .int .i64 s.1∧fr' 5 = .int .i64 s.2∧Sep h' (geL h.length) ([])) hX9 ⟨zf0,zf1,rfl,hS⟩ (fun _ _ _ h=>h) ?_ ?_
 ·rintro ⟨s3,s4⟩ fr19 h20 ⟨f22,f23,f24,hS21⟩ oc8 hF11 hr12 Q13 hN14 hK15 hR16 hE17
  dsimp only at *
  unfold qal at hF11
  simp only [qyo,qc,qd,f24,qf,f22,zy,qb,jd,qz,kq,qa,q9,B0,reduceIte,a9]
  refine qy (t:=(decide (s4<(f0 a_0:Int)))) (fun hc26=>?_) (fun hc26=>?_)
  ·rw [iteT hc26] at hF11
   obtain ⟨x27,hx28,hF29⟩:=qk hF11
   simp only [zh,qzg,qc,kz,q2n,qd,f22,qf,f24,jl,B0,reduceIte,a9]
   refine qh (v := .ref (qg x27) 0) (kx hx28 rfl) ?_
   simp only [qt,qb,d8,d9,e8,qs,qn,B0,reduceIte,a9]
   refine qh (v := .int .i64 x27.Epoch) rfl ?_
   simp only [f23,qf,qz,qb,ya,qa,q9,B0,reduceIte,a9]
   refine qy (t:=(decide (x27.Epoch≠s3))) (fun hc30=>?_) (fun hc30=>?_)
   ·rw [iteT hc30] at hF29
    simp only [qc,qd,qf,qa,qx,B0,reduceIte,a9]
    have e31:=qj hF29
    subst e31
    have ho32:=hr12 _ rfl
    have hk33:=hk10
    rw [ho32] at hk33
    dsimp only [jnO] at hk33
    apply hR16
    have he:=qj hk33
    subst he
    simp only [q8,B0,reduceIte,a9]
    exact rfl
   rw [iteF hc30] at hF29
   obtain ⟨x34,hx35,hF36⟩:=qk hF29
   simp only [zh,q6f,qc,qd,f23,qf,qz,qb,wn,qa,q13,f22,f24,jl,B0,reduceIte,a9]
   refine qh (v := .ref (qg x34) 0) (kx hx35 rfl) ?_
   simp only [qt,qb,d8,d9,e8,qs,qn,B0,reduceIte,a9]
   refine qh (v := .int .i64 x34.Value) rfl ?_
   simp only [qf,qz,qb,ya,qa,q9,B0,reduceIte,a9]
   refine qy (t:=(decide (x34.Value≠(l4 .i64 (s3+1))))) (fun hc37=>?_) (fun hc37=>?_)
   ·rw [iteT hc37] at hF36
    simp only [qc,qd,qf,qa,qx,B0,reduceIte,a9]
    have e38:=qj hF36
    subst e38
    have ho39:=hr12 _ rfl
    have hk40:=hk10
    rw [ho39] at hk40
    dsimp only [jnO] at hk40
    apply hR16
    have he:=qj hk40
    subst he
    simp only [q8,B0,reduceIte,a9]
    exact rfl
   rw [iteF hc37] at hF36
   simp only [zh,qd,qf,qz,qb,wn,qa,yl,f24,qp,B0,reduceIte,a9]
   have e41:=qj hF36
   exact hN14 _ _ _ e41.symm ⟨f22,rfl,rfl,hS21⟩
  rw [iteF hc26] at hF11
  simp only [yy,yn,wh,B0,reduceIte,a9]
  have e42:=qj hF11
  exact hK15 _ _ _ e42.symm ⟨f22,f23,f24,hS21⟩
 rintro ⟨s44,s45⟩ fr46 h47 rfl ⟨f49,f50,f51,hS48⟩
 dsimp only [jnO] at hk10
 dsimp only at *
 unfold qgu at hk10
 simp only [qc,qd,f50,qf,qa,qx,B0,reduceIte,a9]
 have he:=qj hk10
 subst he
 simp only [q8,B0,reduceIte,a9]
 exact rfl
theorem qld {W:Nat→Bool}{h:Heap} (hW:∀ b,
  (geL h.length) b→W b=true) (k:Nat) (v_0:List Node) (v_1:Int) (r:Int) (hF:qbs k v_0 v_1=some r) : Ret E W 48 [lst qq v_0,
  .int .i64 v_1] h (fun v h'=>cut h.length h' E.sz false 9 v=some (.int .i64 r)):=by
 refine Ret.of (fn:=x48) rfl (Run.of ?_)
 unfold qbs at hF
 have zf0:zb [lst qq v_0,.int .i64 v_1] 0=lst qq v_0:=rfl
 have zf1:zb [lst qq v_0,.int .i64 v_1] 1 = .int .i64 v_1:=rfl
 generalize zb [lst qq v_0,.int .i64 v_1]=fr0 at zf0 zf1 ⊢
 have hS:Sep h (geL h.length) []:=a0k h
 simp only [x48,qc,qd,qf,qa,qsw,B0,reduceIte,a9]
 obtain ⟨oc7,hX9,hk10⟩:=ka hF
 simp only [qs2]
 refine w5 (σ:=Int × Int) (fun s80=>u2 k v_0 s80.1 s80.2)
   (fun s fr' h'=>fr' 0=lst qq v_0∧fr' 1 = .int .i64 s.1∧fr' 5 = .int .i64 s.2∧Sep h' (geL h.length) ([])) hX9 ⟨zf0,zf1,rfl,hS⟩ (fun _ _ _ h=>h) ?_ ?_
 ·rintro ⟨s3,s4⟩ fr19 h20 ⟨f22,f23,f24,hS21⟩ oc8 hF11 hr12 Q13 hN14 hK15 hR16 hE17
  dsimp only at *
  unfold u2 at hF11
  simp only [qwo,qc,qd,f24,qf,f22,zy,qb,jd,qz,kq,qa,q9,B0,reduceIte,a9]
  refine qy (t:=(decide (s4<(f0 v_0:Int)))) (fun hc26=>?_) (fun hc26=>?_)
  ·rw [iteT hc26] at hF11
   obtain ⟨x27,hx28,hF29⟩:=qk hF11
   simp only [zh,qua,qc,kz,quk,qd,f22,qf,f24,jl,B0,reduceIte,a9]
   refine qh (v := .ref (qq x27) 0) (kx hx28 rfl) ?_
   simp only [qt,qb,d8,d9,e8,qs,qn,B0,reduceIte,a9]
   refine qh (v := .int .i64 x27.View.Epoch) rfl ?_
   simp only [f23,qf,qz,qb,ya,qa,q9,B0,reduceIte,a9]
   refine qy (t:=(decide (x27.View.Epoch≠s3))) (fun hc30=>?_) (fun hc30=>?_)
   ·rw [iteT hc30] at hF29
    simp only [qc,qd,qf,qa,qx,B0,reduceIte,a9]
    have e31:=qj hF29
    subst e31
    have ho32:=hr12 _ rfl
    have hk33:=hk10
    rw [ho32] at hk33
    dsimp only [jnO] at hk33
    apply hR16
    have he:=qj hk33
    subst he
    simp only [q8,B0,reduceIte,a9]
    exact rfl
   rw [iteF hc30] at hF29
   obtain ⟨x34,hx35,hF36⟩:=qk hF29
   simp only [zh,qtl,qc,qd,f23,qf,qz,qb,wn,qa,qyw,f22,f24,jl,B0,reduceIte,a9]
   refine qh (v := .ref (qq x34) 0) (kx hx35 rfl) ?_
   simp only [qt,qb,d8,d9,e8,qs,qn,B0,reduceIte,a9]
   refine qh (v := .int .i64 x34.View.Leader) rfl ?_
   simp only [qf,qz,qb,ya,qa,q9,B0,reduceIte,a9]
   refine qy (t:=(decide (x34.View.Leader≠(l4 .i64 (s3+1))))) (fun hc37=>?_) (fun hc37=>?_)
   ·rw [iteT hc37] at hF36
    simp only [qc,qd,qf,qa,qx,B0,reduceIte,a9]
    have e38:=qj hF36
    subst e38
    have ho39:=hr12 _ rfl
    have hk40:=hk10
    rw [ho39] at hk40
    dsimp only [jnO] at hk40
    apply hR16
    have he:=qj hk40
    subst he
    simp only [q8,B0,reduceIte,a9]
    exact rfl
   rw [iteF hc37] at hF36
   obtain ⟨x41,hx42,hF43⟩:=qk hF36
   simp only [zh,qz3,qc,qd,qf,qz,qb,wn,qa,qzl,f22,f24,jl,B0,reduceIte,a9]
   refine qh (v := .ref (qq x41) 0) (kx hx42 rfl) ?_
   simp only [qt,qb,d8,d9,e8,qs,qn,B0,reduceIte,a9]
   refine qh (v:=lst cI x41.View.InStep) rfl ?_
   obtain ⟨v44,hx45,hF46⟩:=qk hF43
   simp only [qf,zg,B0,reduceIte,a9]
   refine jo rfl (qi zk (qi qo zc)) (qeo (fun b hb=>decide_eq_true hb) k x41.View.InStep (l4 .i64 ((l4 .i64
     (s3+1))+1)) v44 hx45) ?_
   simp only [qf,qa,q00,qc,qd,qz,qb,kq,q9,B0,reduceIte,a9]
   refine qy (t:=(decide (v44<0))) (fun hc47=>?_) (fun hc47=>?_)
   ·rw [iteT hc47] at hF46
    simp only [qc,qd,qf,qa,qx,B0,reduceIte,a9]
    have e48:=qj hF46
    subst e48
    have ho49:=hr12 _ rfl
    have hk50:=hk10
    rw [ho49] at hk50
    dsimp only [jnO] at hk50
    apply hR16
    have he:=qj hk50
    subst he
    simp only [q8,B0,reduceIte,a9]
    exact rfl
   rw [iteF hc47] at hF46
   obtain ⟨x51,hx52,hF53⟩:=qk hF46
   simp only [zh,q70,qc,qd,f22,qf,f24,jl,B0,reduceIte,a9]
   refine qh (v := .ref (qq x51) 0) (kx hx52 rfl) ?_
   simp only [qt,qb,d8,d9,e8,qs,qn,B0,reduceIte,a9]
   refine qh (v:=lst qg x51.Log) rfl ?_
   obtain ⟨v54,hx55,hF56⟩:=qk hF53
   simp only [qf,zg,B0,reduceIte,a9]
   refine jo rfl (qi zk (qi qo zc)) (qhb (fun b hb=>decide_eq_true hb) k x51.Log v44 v54 hx55) ?_
   simp only [qf,qa,q2p,qc,qd,qz,qb,kq,q9,B0,reduceIte,a9]
   refine qy (t:=(decide (v54<0))) (fun hc57=>?_) (fun hc57=>?_)
   ·rw [iteT hc57] at hF56
    simp only [qc,qd,qf,qa,qx,B0,reduceIte,a9]
    have e58:=qj hF56
    subst e58
    have ho59:=hr12 _ rfl
    have hk60:=hk10
    rw [ho59] at hk60
    dsimp only [jnO] at hk60
    apply hR16
    have he:=qj hk60
    subst he
    simp only [q8,B0,reduceIte,a9]
    exact rfl
   rw [iteF hc57] at hF56
   obtain ⟨x61,hx62,hF63⟩:=qk hF56
   simp only [zh,qy4,qc,qd,f22,qf,f24,jl,B0,reduceIte,a9]
   refine qh (v := .ref (qq x61) 0) (kx hx62 rfl) ?_
   simp only [qt,qb,d8,d9,e8,qs,qn,B0,reduceIte,a9]
   refine qh (v:=lst cI x61.Known) rfl ?_
   obtain ⟨v64,hx65,hF66⟩:=qk hF63
   simp only [qf,zg,B0,reduceIte,a9]
   refine jo rfl (qi zk (qi qo zc)) (qeo (fun b hb=>decide_eq_true hb) k x61.Known v54 v64 hx65) ?_
   simp only [qf,qa,q30,qc,qd,qz,qb,kq,q9,B0,reduceIte,a9]
   refine qy (t:=(decide (v64<0))) (fun hc67=>?_) (fun hc67=>?_)
   ·rw [iteT hc67] at hF66
    simp only [qc,qd,qf,qa,qx,B0,reduceIte,a9]
    have e68:=qj hF66
    subst e68
    have ho69:=hr12 _ rfl
    have hk70:=hk10
    rw [ho69] at hk70
    dsimp only [jnO] at hk70
    apply hR16
    have he:=qj hk70
    subst he
    simp only [q8,B0,reduceIte,a9]
    exact rfl
   rw [iteF hc67] at hF66
   obtain ⟨x71,hx72,hF73⟩:=qk hF66
   simp only [zh,qz0,qc,qd,f22,qf,f24,jl,B0,reduceIte,a9]
   refine qh (v := .ref (qq x71) 0) (kx hx72 rfl) ?_
   simp only [qt,qb,d8,d9,e8,qs,qn,B0,reduceIte,a9]
   refine qh (v := .int .i64 x71.Told) rfl ?_
   simp only [qf,qz,qb,ya,qa,q9,B0,reduceIte,a9]
   refine qy (t:=(decide (x71.Told≠v64))) (fun hc74=>?_) (fun hc74=>?_)
   ·rw [iteT hc74] at hF73
    simp only [qc,qd,qf,qa,qx,B0,reduceIte,a9]
    have e75:=qj hF73
    subst e75
    have ho76:=hr12 _ rfl
    have hk77:=hk10
    rw [ho76] at hk77
    dsimp only [jnO] at hk77
    apply hR16
    have he:=qj hk77
    subst he
    simp only [q8,B0,reduceIte,a9]
    exact rfl
   rw [iteF hc74] at hF73
   simp only [zh,qd,qf,qz,qb,wn,qa,yl,f24,qp,B0,reduceIte,a9]
   have e78:=qj hF73
   exact hN14 _ _ _ e78.symm ⟨f22,rfl,rfl,hS21⟩
  rw [iteF hc26] at hF11
  simp only [yy,yn,wh,B0,reduceIte,a9]
  have e79:=qj hF11
  exact hK15 _ _ _ e79.symm ⟨f22,f23,f24,hS21⟩
 rintro ⟨s81,s82⟩ fr83 h84 rfl ⟨f86,f87,f88,hS85⟩
 dsimp only [jnO] at hk10
 dsimp only at *
 unfold qf9 at hk10
 simp only [qc,qd,f87,qf,qa,qx,B0,reduceIte,a9]
 have he:=qj hk10
 subst he
 simp only [q8,B0,reduceIte,a9]
 exact rfl
theorem qfp {W:Nat→Bool}{h:Heap} (hW:∀ b,
  (geL h.length) b→W b=true) (k:Nat) (a_0:Cluster) (k_1:Int) (r:Int) (hF:xu k a_0 k_1=some r) : Ret E W 13 [.agg [.int .i64 a_0.Truth.Epoch,
  .int .i64 a_0.Truth.Leader,lst cI a_0.Truth.InStep,lst qq a_0.Nodes,lst qg a_0.Acked],
  .int .i64 k_1] h (fun v h'=>cut h.length h' E.sz false 9 v=some (.int .i64 r)):=by
 refine Ret.of (fn:=x13) rfl (Run.of ?_)
 unfold xu at hF
 have zf0:zb [.agg [.int .i64 a_0.Truth.Epoch,.int .i64 a_0.Truth.Leader,lst cI a_0.Truth.InStep,lst qq a_0.Nodes,lst qg a_0.Acked],
   .int .i64 k_1] 0 = .agg [.int .i64 a_0.Truth.Epoch,.int .i64 a_0.Truth.Leader,lst cI a_0.Truth.InStep,lst qq a_0.Nodes,lst qg a_0.Acked]:=rfl
 have zf1:zb [.agg [.int .i64 a_0.Truth.Epoch,.int .i64 a_0.Truth.Leader,lst cI a_0.Truth.InStep,lst qq a_0.Nodes,lst qg a_0.Acked],
   .int .i64 k_1] 1 = .int .i64 k_1:=rfl
 generalize zb [.agg [.int .i64 a_0.Truth.Epoch,.int .i64 a_0.Truth.Leader,lst cI a_0.Truth.InStep,lst qq a_0.Nodes,lst qg a_0.Acked],
   .int .i64 k_1]=fr0 at zf0 zf1 ⊢
 have hS:Sep h (geL h.length) []:=a0k h
 simp only [x13,qc,qd,jp,zf0,B0,reduceIte,a9]
 refine je (cs:=[.int .i64 a_0.Truth.Epoch,.int .i64 a_0.Truth.Leader,lst cI a_0.Truth.InStep,lst qq a_0.Nodes,
   lst qg a_0.Acked]) hS rfl rfl rfl (fun b1 h2 hS3=>?_)
 simp only [qf,qa,B0,reduceIte,a9]
 refine zx hS3 hW (by simp only [B0,reduceIte,a9]) (fun h5 hS6=>?_)
 simp only [zw,q3k,qc,qd,qt,qb,d8,d9,e8,qs,qn,B0,reduceIte,a9]
 refine qh (v := .agg [.int .i64 a_0.Truth.Epoch,.int .i64 a_0.Truth.Leader,lst cI a_0.Truth.InStep]) rfl ?_
 obtain ⟨v7,hx8,hF9⟩:=qk hF
 simp only [zf1,qf,zg,B0,reduceIte,a9]
 refine jo rfl (qi (zv (qi qo (qi qo (qi zk zc)))) (qi qo zc)) (qmo
   (fun b hb=>decide_eq_true hb) k a_0.Truth k_1 v7 hx8) ?_
 simp only [qf,qa,q6m,qc,qd,qz,qb,kq,q9,B0,reduceIte,a9]
 refine qy (t:=(decide (v7<0))) (fun hc10=>?_) (fun hc10=>?_)
 ·rw [iteT hc10] at hF9
  simp only [qc,qd,qf,qa,qx,B0,reduceIte,a9]
  have he:=qj hF9
  subst he
  simp only [q8,B0,reduceIte,a9]
  exact rfl
 rw [iteF hc10] at hF9
 simp only [zh,qym,qc,qd,qt,qb,d8,d9,e8,qs,qn,B0,reduceIte,a9]
 refine qh (v:=lst qq a_0.Nodes) rfl ?_
 obtain ⟨v11,hx12,hF13⟩:=qk hF9
 simp only [qf,zg,B0,reduceIte,a9]
 refine jo rfl (qi zk (qi qo zc)) (qld (fun b hb=>decide_eq_true hb) k a_0.Nodes v7 v11 hx12) ?_
 simp only [qf,qa,q09,qc,qd,qz,qb,kq,q9,B0,reduceIte,a9]
 refine qy (t:=(decide (v11<0))) (fun hc14=>?_) (fun hc14=>?_)
 ·rw [iteT hc14] at hF13
  simp only [qc,qd,qf,qa,qx,B0,reduceIte,a9]
  have he:=qj hF13
  subst he
  simp only [q8,B0,reduceIte,a9]
  exact rfl
 rw [iteF hc14] at hF13
 simp only [zh,q6a,qc,qd,qt,qb,d8,d9,e8,qs,qn,B0,reduceIte,a9]
 refine qh (v:=lst qg a_0.Acked) rfl ?_
 obtain ⟨v15,hx16,hF17⟩:=qk hF13
 simp only [qf,zg,B0,reduceIte,a9]
 refine jo rfl (qi zk (qi qo zc)) (qhb (fun b hb=>decide_eq_true hb) k a_0.Acked v11 v15 hx16) ?_
 simp only [qf,qa,q6n,qc,qd,qz,qb,kq,q9,B0,reduceIte,a9]
 refine qy (t:=(decide (v15<0))) (fun hc18=>?_) (fun hc18=>?_)
 ·rw [iteT hc18] at hF17
  simp only [qc,qd,qf,qa,qx,B0,reduceIte,a9]
  have he:=qj hF17
  subst he
  simp only [q8,B0,reduceIte,a9]
  exact rfl
 rw [iteF hc18] at hF17
 simp only [zh,qc,qd,qf,qa,qx,B0,reduceIte,a9]
 have he:=qj hF17
 subst he
 simp only [q8,B0,reduceIte,a9]
 exact rfl
theorem qjl {W:Nat→Bool}{h:Heap} (hW:∀ b,
  (geL h.length) b→W b=true) (a_0:List Int) (left_1:Int) (r:Int) (hF:qcr a_0 left_1=some r) : Ret E W 70 [lst cI a_0,
  .int .i64 left_1] h (fun v h'=>cut h.length h' E.sz false 9 v=some (.int .i64 r)):=by
 refine Ret.of (fn:=x70) rfl (Run.of ?_)
 unfold qcr at hF
 have zf0:zb [lst cI a_0,.int .i64 left_1] 0=lst cI a_0:=rfl
 have zf1:zb [lst cI a_0,.int .i64 left_1] 1 = .int .i64 left_1:=rfl
 generalize zb [lst cI a_0,.int .i64 left_1]=fr0 at zf0 zf1 ⊢
 have hS:Sep h (geL h.length) []:=a0k h
 simp only [x70,qc,qd,qf,qa,qz8,zf1,zf0,zy,qb,jd,qz,qgz,q5w,kq,q9,B0,reduceIte,a9]
 refine qy (t:=(decide ((l4 .i64 (left_1 - (f0 a_0:Int)))<0))) (fun hc1=>?_) (fun hc1=>?_)
 ·rw [iteT hc1] at hF
  simp only [qc,qd,qf,qa,qx,B0,reduceIte,a9]
  have he:=qj hF
  subst he
  simp only [q8,B0,reduceIte,a9]
  exact rfl
 rw [iteF hc1] at hF
 simp only [zh,qc,qd,qf,qa,qx,B0,reduceIte,a9]
 have he:=qj hF
 subst he
 simp only [q8,B0,reduceIte,a9]
 exact rfl
theorem qjo {W:Nat→Bool}{h:Heap} (hW:∀ b,
  (geL h.length) b→W b=true) (a_0:View) (left_1:Int) (r:Int) (hF:qcp a_0 left_1=some r) : Ret E W 50 [.agg [.int .i64 a_0.Epoch,.int .i64 a_0.Leader,
  lst cI a_0.InStep],.int .i64 left_1] h (fun v h'=>cut h.length h' E.sz false 9 v=some (.int .i64 r)):=by
 refine Ret.of (fn:=x50) rfl (Run.of ?_)
 unfold qcp at hF
 have zf0:zb [.agg [.int .i64 a_0.Epoch,.int .i64 a_0.Leader,lst cI a_0.InStep],.int .i64 left_1] 0 = .agg [.int .i64 a_0.Epoch,.int .i64 a_0.Leader,
   lst cI a_0.InStep]:=rfl
 have zf1:zb [.agg [.int .i64 a_0.Epoch,.int .i64 a_0.Leader,lst cI a_0.InStep],.int .i64 left_1] 1 = .int .i64 left_1:=rfl
 generalize zb [.agg [.int .i64 a_0.Epoch,.int .i64 a_0.Leader,lst cI a_0.InStep],.int .i64 left_1]=fr0 at zf0 zf1 ⊢
 have hS:Sep h (geL h.length) []:=a0k h
 simp only [x50,qc,qd,jp,zf0,B0,reduceIte,a9]
 refine je (cs:=[.int .i64 a_0.Epoch,.int .i64 a_0.Leader,lst cI a_0.InStep]) hS rfl rfl rfl (fun b1 h2 hS3=>?_)
 simp only [qf,qa,B0,reduceIte,a9]
 refine zx hS3 hW (by simp only [B0,reduceIte,a9]) (fun h5 hS6=>?_)
 simp only [zw,qzc,qc,qd,qt,qb,d8,d9,e8,qs,qn,B0,reduceIte,a9]
 refine qh (v:=lst cI a_0.InStep) rfl ?_
 obtain ⟨v7,hx8,hF9⟩:=qk hF
 simp only [zf1,qf,zg,B0,reduceIte,a9]
 refine jo rfl (qi zk (qi qo zc)) (qjl (fun b hb=>decide_eq_true hb) a_0.InStep left_1 v7 hx8) ?_
 simp only [qf,qa,q3m,qc,qd,qz,qb,kq,q9,B0,reduceIte,a9]
 refine qy (t:=(decide (v7<0))) (fun hc10=>?_) (fun hc10=>?_)
 ·rw [iteT hc10] at hF9
  simp only [qc,qd,qf,qa,qx,B0,reduceIte,a9]
  have he:=qj hF9
  subst he
  simp only [q8,B0,reduceIte,a9]
  exact rfl
 rw [iteF hc10] at hF9
 simp only [zh,qc,qd,qf,qa,qx,B0,reduceIte,a9]
 have he:=qj hF9
 subst he
 simp only [q8,B0,reduceIte,a9]
 exact rfl
theorem qjg {W:Nat→Bool}{h:Heap} (hW:∀ b,
  (geL h.length) b→W b=true) (a_0:List Row) (left_1:Int) (r:Int) (hF:qcj a_0 left_1=some r) : Ret E W 52 [lst qg a_0,
  .int .i64 left_1] h (fun v h'=>cut h.length h' E.sz false 9 v=some (.int .i64 r)):=by
 refine Ret.of (fn:=x52) rfl (Run.of ?_)
 unfold qcj at hF
 have zf0:zb [lst qg a_0,.int .i64 left_1] 0=lst qg a_0:=rfl
 have zf1:zb [lst qg a_0,.int .i64 left_1] 1 = .int .i64 left_1:=rfl
 generalize zb [lst qg a_0,.int .i64 left_1]=fr0 at zf0 zf1 ⊢
 have hS:Sep h (geL h.length) []:=a0k h
 simp only [x52,qc,qd,qf,qa,q56,zf1,zf0,zy,qb,jd,qz,qgz,q1r,kq,q9,B0,reduceIte,a9]
 refine qy (t:=(decide ((l4 .i64 (left_1 - (f0 a_0:Int)))<0))) (fun hc1=>?_) (fun hc1=>?_)
 ·rw [iteT hc1] at hF
  simp only [qc,qd,qf,qa,qx,B0,reduceIte,a9]
  have he:=qj hF
  subst he
  simp only [q8,B0,reduceIte,a9]
  exact rfl
 rw [iteF hc1] at hF
 simp only [zh,qc,qd,qf,qa,qx,B0,reduceIte,a9]
 have he:=qj hF
 subst he
 simp only [q8,B0,reduceIte,a9]
 exact rfl
theorem qn3 {W:Nat→Bool}{h:Heap} (hW:∀ b,
  (geL h.length) b→W b=true) (a_0:Node) (left_1:Int) (r:Int) (hF:qdz a_0 left_1=some r) : Ret E W 71 [.agg [.int .i64 a_0.View.Epoch,
  .int .i64 a_0.View.Leader,lst cI a_0.View.InStep,lst qg a_0.Log,lst cI a_0.Known,.int .i64 a_0.Told],
  .int .i64 left_1] h (fun v h'=>cut h.length h' E.sz false 9 v=some (.int .i64 r)):=by
 refine Ret.of (fn:=x71) rfl (Run.of ?_)
 unfold qdz at hF
 have zf0:zb [.agg [.int .i64 a_0.View.Epoch,.int .i64 a_0.View.Leader,lst cI a_0.View.InStep,lst qg a_0.Log,lst cI a_0.Known,.int .i64 a_0.Told],
   .int .i64 left_1] 0 = .agg [.int .i64 a_0.View.Epoch,.int .i64 a_0.View.Leader,lst cI a_0.View.InStep,lst qg a_0.Log,lst cI a_0.Known,.int .i64 a_0.Told]:=rfl
 have zf1:zb [.agg [.int .i64 a_0.View.Epoch,.int .i64 a_0.View.Leader,lst cI a_0.View.InStep,lst qg a_0.Log,lst cI a_0.Known,.int .i64 a_0.Told],
   .int .i64 left_1] 1 = .int .i64 left_1:=rfl
 generalize zb [.agg [.int .i64 a_0.View.Epoch,.int .i64 a_0.View.Leader,lst cI a_0.View.InStep,lst qg a_0.Log,lst cI a_0.Known,.int .i64 a_0.Told],
   .int .i64 left_1]=fr0 at zf0 zf1 ⊢
 have hS:Sep h (geL h.length) []:=a0k h
 simp only [x71,qc,qd,jp,zf0,B0,reduceIte,a9]
 refine je (cs:=[.int .i64 a_0.View.Epoch,.int .i64 a_0.View.Leader,lst cI a_0.View.InStep,lst qg a_0.Log,lst cI a_0.Known,
   .int .i64 a_0.Told]) hS rfl rfl rfl (fun b1 h2 hS3=>?_)
 simp only [qf,qa,B0,reduceIte,a9]
 refine zx hS3 hW (by simp only [B0,reduceIte,a9]) (fun h5 hS6=>?_)
 simp only [zw,q4y,qc,qd,qt,qb,d8,d9,e8,qs,qn,B0,reduceIte,a9]
 refine qh (v := .agg [.int .i64 a_0.View.Epoch,.int .i64 a_0.View.Leader,lst cI a_0.View.InStep]) rfl ?_
 obtain ⟨v7,hx8,hF9⟩:=qk hF
 simp only [zf1,qf,zg,B0,reduceIte,a9]
 refine jo rfl (qi (zv (qi qo (qi qo (qi zk zc)))) (qi qo zc)) (qjo
   (fun b hb=>decide_eq_true hb) a_0.View left_1 v7 hx8) ?_
 simp only [qf,qa,q59,qc,qd,qz,qb,kq,q9,B0,reduceIte,a9]
 refine qy (t:=(decide (v7<0))) (fun hc10=>?_) (fun hc10=>?_)
 ·rw [iteT hc10] at hF9
  simp only [qc,qd,qf,qa,qx,B0,reduceIte,a9]
  have he:=qj hF9
  subst he
  simp only [q8,B0,reduceIte,a9]
  exact rfl
 rw [iteF hc10] at hF9
 simp only [zh,q5a,qc,qd,qt,qb,d8,d9,e8,qs,qn,B0,reduceIte,a9]
 refine qh (v:=lst qg a_0.Log) rfl ?_
 obtain ⟨v11,hx12,hF13⟩:=qk hF9
 simp only [qf,zg,B0,reduceIte,a9]
 refine jo rfl (qi zk (qi qo zc)) (qjg (fun b hb=>decide_eq_true hb) a_0.Log v7 v11 hx12) ?_
 simp only [qf,qa,q0o,qc,qd,qz,qb,kq,q9,B0,reduceIte,a9]
 refine qy (t:=(decide (v11<0))) (fun hc14=>?_) (fun hc14=>?_)
 ·rw [iteT hc14] at hF13
  simp only [qc,qd,qf,qa,qx,B0,reduceIte,a9]
  have he:=qj hF13
  subst he
  simp only [q8,B0,reduceIte,a9]
  exact rfl
 rw [iteF hc14] at hF13
 simp only [zh,q7z,qc,qd,qt,qb,d8,d9,e8,qs,qn,B0,reduceIte,a9]
 refine qh (v:=lst cI a_0.Known) rfl ?_
 obtain ⟨v15,hx16,hF17⟩:=qk hF13
 simp only [qf,zg,B0,reduceIte,a9]
 refine jo rfl (qi zk (qi qo zc)) (qjl (fun b hb=>decide_eq_true hb) a_0.Known v11 v15 hx16) ?_
 simp only [qf,qa,q5b,qc,qd,qz,qb,kq,q9,B0,reduceIte,a9]
 refine qy (t:=(decide (v15<0))) (fun hc18=>?_) (fun hc18=>?_)
 ·rw [iteT hc18] at hF17
  simp only [qc,qd,qf,qa,qx,B0,reduceIte,a9]
  have he:=qj hF17
  subst he
  simp only [q8,B0,reduceIte,a9]
  exact rfl
 rw [iteF hc18] at hF17
 simp only [zh,qc,qd,qf,qa,qx,B0,reduceIte,a9]
 have he:=qj hF17
 subst he
 simp only [q8,B0,reduceIte,a9]
 exact rfl
theorem qnc {W:Nat→Bool}{h:Heap} (hW:∀ b,
  (geL h.length) b→W b=true) (k:Nat) (a_0:List Node) (left_1:Int) (r:Int) (hF:qcz k a_0 left_1=some r) : Ret E W 51 [lst qq a_0,
  .int .i64 left_1] h (fun v h'=>cut h.length h' E.sz false 9 v=some (.int .i64 r)):=by
 refine Ret.of (fn:=x51) rfl (Run.of ?_)
 unfold qcz at hF
 have zf0:zb [lst qq a_0,.int .i64 left_1] 0=lst qq a_0:=rfl
 have zf1:zb [lst qq a_0,.int .i64 left_1] 1 = .int .i64 left_1:=rfl
 generalize zb [lst qq a_0,.int .i64 left_1]=fr0 at zf0 zf1 ⊢
 have hS:Sep h (geL h.length) []:=a0k h
 simp only [x51,qc,qd,qf,qa,q3r,zf1,zf0,zy,qb,jd,qz,qgz,q0d,kq,q9,B0,reduceIte,a9]
 refine qy (t:=(decide ((l4 .i64 (left_1 - (f0 a_0:Int)))<0))) (fun hc1=>?_) (fun hc1=>?_)
 ·rw [iteT hc1] at hF
  simp only [qc,qd,qf,qa,qx,B0,reduceIte,a9]
  have he:=qj hF
  subst he
  simp only [q8,B0,reduceIte,a9]
  exact rfl
 rw [iteF hc1] at hF
 simp only [zh,q53,qc,qd,qf,qa,B0,reduceIte,a9]
 obtain ⟨oc8,hX10,hk11⟩:=ka hF
 simp only [q65]
 refine w5 (σ:=Int × Int) (fun s40=>qbd a_0 s40.1 s40.2)
   (fun s fr' h'=>fr' 0=lst qq a_0∧fr' 1 = .int .i64 s.1∧fr' 5 = .int .i64 s.2∧Sep h' (geL h.length) ([])) hX10 ⟨zf0,rfl,rfl,hS⟩ (fun _ _ _ h=>h) ?_ ?_
 ·rintro ⟨s4,s5⟩ fr20 h21 ⟨f23,f24,f25,hS22⟩ oc9 hF12 hr13 Q14 hN15 hK16 hR17 hE18
  dsimp only at *
  unfold qbd at hF12
  simp only [q0l,qc,qd,f25,qf,f23,zy,qb,jd,qz,kq,qa,q9,B0,reduceIte,a9]
  refine qy (t:=(decide (s5<(f0 a_0:Int)))) (fun hc27=>?_) (fun hc27=>?_)
  ·rw [iteT hc27] at hF12
   obtain ⟨x28,hx29,hF30⟩:=qk hF12
   simp only [zh,q3f,qc,kz,q44,qd,f23,qf,f25,jl,B0,reduceIte,a9]
   refine qh (v := .ref (qq x28) 0) (kx hx29 rfl) ?_
   simp only [qn,B0,reduceIte,a9]
   refine qh (v := .agg [.int .i64 x28.View.Epoch,.int .i64 x28.View.Leader,lst cI x28.View.InStep,lst qg x28.Log,lst cI x28.Known,.int .i64 x28.Told]) rfl ?_
   obtain ⟨v31,hx32,hF33⟩:=qk hF30
   simp only [f24,qf,zg,B0,reduceIte,a9]
   refine jo rfl (qi (zv (qi qo (qi qo (qi zk (qi zk (qi zk (qi qo zc))))))) (qi qo zc))
     (qn3 (fun b hb=>decide_eq_true hb) x28 s4 v31 hx32) ?_
   simp only [qf,qa,q17,qc,qd,qz,qb,kq,q9,B0,reduceIte,a9]
   refine qy (t:=(decide (v31<0))) (fun hc34=>?_) (fun hc34=>?_)
   ·rw [iteT hc34] at hF33
    simp only [qc,qd,qf,qa,qx,B0,reduceIte,a9]
    have e35:=qj hF33
    subst e35
    have ho36:=hr13 _ rfl
    have hk37:=hk11
    rw [ho36] at hk37
    dsimp only [jnO] at hk37
    apply hR17
    have he:=qj hk37
    subst he
    simp only [q8,B0,reduceIte,a9]
    exact rfl
   rw [iteF hc34] at hF33
   simp only [zh,yl,qd,f25,qf,qz,qb,wn,qa,qp,B0,reduceIte,a9]
   have e38:=qj hF33
   exact hN15 _ _ _ e38.symm ⟨f23,rfl,rfl,hS22⟩
  rw [iteF hc27] at hF12
  simp only [yy,yn,wh,B0,reduceIte,a9]
  have e39:=qj hF12
  exact hK16 _ _ _ e39.symm ⟨f23,f24,f25,hS22⟩
 rintro ⟨s41,s42⟩ fr43 h44 rfl ⟨f46,f47,f48,hS45⟩
 dsimp only [jnO] at hk11
 dsimp only at *
 unfold qhh at hk11
 simp only [qc,qd,f47,qf,qa,qx,B0,reduceIte,a9]
 have he:=qj hk11
 subst he
 simp only [q8,B0,reduceIte,a9]
 exact rfl
theorem qk7 {W:Nat→Bool}{h:Heap} (hW:∀ b,
  (geL h.length) b→W b=true) (k:Nat) (a_0:Cluster) (left_1:Int) (r:Int) (hF:qbp k a_0 left_1=some r) : Ret E W 14 [.agg [.int .i64 a_0.Truth.Epoch,
  .int .i64 a_0.Truth.Leader,lst cI a_0.Truth.InStep,lst qq a_0.Nodes,lst qg a_0.Acked],
  .int .i64 left_1] h (fun v h'=>cut h.length h' E.sz false 9 v=some (.int .i64 r)):=by
 refine Ret.of (fn:=x14) rfl (Run.of ?_)
 unfold qbp at hF
 have zf0:zb [.agg [.int .i64 a_0.Truth.Epoch,.int .i64 a_0.Truth.Leader,lst cI a_0.Truth.InStep,lst qq a_0.Nodes,lst qg a_0.Acked],
   .int .i64 left_1] 0 = .agg [.int .i64 a_0.Truth.Epoch,.int .i64 a_0.Truth.Leader,lst cI a_0.Truth.InStep,lst qq a_0.Nodes,lst qg a_0.Acked]:=rfl
 have zf1:zb [.agg [.int .i64 a_0.Truth.Epoch,.int .i64 a_0.Truth.Leader,lst cI a_0.Truth.InStep,lst qq a_0.Nodes,lst qg a_0.Acked],
   .int .i64 left_1] 1 = .int .i64 left_1:=rfl
 generalize zb [.agg [.int .i64 a_0.Truth.Epoch,.int .i64 a_0.Truth.Leader,lst cI a_0.Truth.InStep,lst qq a_0.Nodes,lst qg a_0.Acked],
   .int .i64 left_1]=fr0 at zf0 zf1 ⊢
 have hS:Sep h (geL h.length) []:=a0k h
 simp only [x14,qc,qd,jp,zf0,B0,reduceIte,a9]
 refine je (cs:=[.int .i64 a_0.Truth.Epoch,.int .i64 a_0.Truth.Leader,lst cI a_0.Truth.InStep,lst qq a_0.Nodes,
   lst qg a_0.Acked]) hS rfl rfl rfl (fun b1 h2 hS3=>?_)
 simp only [qf,qa,B0,reduceIte,a9]
 refine zx hS3 hW (by simp only [B0,reduceIte,a9]) (fun h5 hS6=>?_)
 simp only [zw,q61,qc,qd,qt,qb,d8,d9,e8,qs,qn,B0,reduceIte,a9]
 refine qh (v := .agg [.int .i64 a_0.Truth.Epoch,.int .i64 a_0.Truth.Leader,lst cI a_0.Truth.InStep]) rfl ?_
 obtain ⟨v7,hx8,hF9⟩:=qk hF
 simp only [zf1,qf,zg,B0,reduceIte,a9]
 refine jo rfl (qi (zv (qi qo (qi qo (qi zk zc)))) (qi qo zc)) (qjo
   (fun b hb=>decide_eq_true hb) a_0.Truth left_1 v7 hx8) ?_
 simp only [qf,qa,q07,qc,qd,qz,qb,kq,q9,B0,reduceIte,a9]
 refine qy (t:=(decide (v7<0))) (fun hc10=>?_) (fun hc10=>?_)
 ·rw [iteT hc10] at hF9
  simp only [qc,qd,qf,qa,qx,B0,reduceIte,a9]
  have he:=qj hF9
  subst he
  simp only [q8,B0,reduceIte,a9]
  exact rfl
 rw [iteF hc10] at hF9
 simp only [zh,q8e,qc,qd,qt,qb,d8,d9,e8,qs,qn,B0,reduceIte,a9]
 refine qh (v:=lst qq a_0.Nodes) rfl ?_
 obtain ⟨v11,hx12,hF13⟩:=qk hF9
 simp only [qf,zg,B0,reduceIte,a9]
 refine jo rfl (qi zk (qi qo zc)) (qnc (fun b hb=>decide_eq_true hb) k a_0.Nodes v7 v11 hx12) ?_
 simp only [qf,qa,q2c,qc,qd,qz,qb,kq,q9,B0,reduceIte,a9]
 refine qy (t:=(decide (v11<0))) (fun hc14=>?_) (fun hc14=>?_)
 ·rw [iteT hc14] at hF13
  simp only [qc,qd,qf,qa,qx,B0,reduceIte,a9]
  have he:=qj hF13
  subst he
  simp only [q8,B0,reduceIte,a9]
  exact rfl
 rw [iteF hc14] at hF13
 simp only [zh,q2a,qc,qd,qt,qb,d8,d9,e8,qs,qn,B0,reduceIte,a9]
 refine qh (v:=lst qg a_0.Acked) rfl ?_
 obtain ⟨v15,hx16,hF17⟩:=qk hF13
 simp only [qf,zg,B0,reduceIte,a9]
 refine jo rfl (qi zk (qi qo zc)) (qjg (fun b hb=>decide_eq_true hb) a_0.Acked v11 v15 hx16) ?_
 simp only [qf,qa,q4h,qc,qd,qz,qb,kq,q9,B0,reduceIte,a9]
 refine qy (t:=(decide (v15<0))) (fun hc18=>?_) (fun hc18=>?_)
 ·rw [iteT hc18] at hF17
  simp only [qc,qd,qf,qa,qx,B0,reduceIte,a9]
  have he:=qj hF17
  subst he
  simp only [q8,B0,reduceIte,a9]
  exact rfl
 rw [iteF hc18] at hF17
 simp only [zh,qc,qd,qf,qa,qx,B0,reduceIte,a9]
 have he:=qj hF17
 subst he
 simp only [q8,B0,reduceIte,a9]
 exact rfl
theorem qja {W:Nat→Bool}{h:Heap} (hW:∀ b,
  (geL h.length) b→W b=true) (k:Nat) (a_0:List Int) (r:List Int) (hF:qcm k a_0=some r) : Ret E W 75 [lst cI a_0] h (fun v h'=>∃ rv0 rc0,
  v=rv0∧SlF cI 1 3 rv0 r rc0∧Sep h' (geL h.length) (rc0++([]))):=by
 refine Ret.of (fn:=x75) rfl (Run.of ?_)
 unfold qcm at hF
 have zf0:zb [lst cI a_0] 0=lst cI a_0:=rfl
 generalize zb [lst cI a_0]=fr0 at zf0 ⊢
 have hS:Sep h (geL h.length) []:=a0k h
 obtain ⟨l1,hx2,hF3⟩:=qk hF
 simp only [x75,qc,qd,qf,qa,qz2,zf0,zy,qb,jd,qid,B0,reduceIte,a9]
 refine qhe (f:=cI) (z:=(0:Int)) hS hx2 rfl (fun v4 c5 h6 hv7 hS8=>?_)
 simp only [qf,qa,q0e,qc,qd,B0,reduceIte,a9]
 obtain ⟨oc20,hX22,hk23⟩:=ka hF3
 simp only [qzt]
 refine w5 (σ:=Int × (List Int)) (fun s55=>qbo a_0 s55.1 s55.2) (fun s fr' h'=>∃ c16,
   fr' 0=lst cI a_0∧fr' 3=v4∧fr' 4 = .int .i64 s.1∧SlF cI 1 3 v4 s.2 c16∧Sep h' (geL h.length) (c16++([]))) hX22 ⟨c5,zf0,rfl,rfl,hv7,
   hS8⟩ (fun _ _ _ h=>h) ?_ ?_
 ·rintro ⟨s14,s15⟩ fr32 h33 ⟨c16,f35,f36,f37,hv17,hS34⟩ oc21 hF24 hr25 Q26 hN27 hK28 hR29 hE30
  dsimp only at *
  unfold qbo at hF24
  simp only [q76,qc,qd,f37,qf,f35,zy,qb,jd,qz,kq,qa,q9,B0,reduceIte,a9]
  refine qy (t:=(decide (s14<(f0 a_0:Int)))) (fun hc39=>?_) (fun hc39=>?_)
  ·rw [iteT hc39] at hF24
   obtain ⟨x40,hx41,hF42⟩:=qk hF24
   simp only [zh,q20,qc,kz,q0m,qd,f36,qf,f37,f35,jl,B0,reduceIte,a9]
   refine qh (v := .ref (cI x40) 0) (kx hx41 rfl) ?_
   simp only [qn,B0,reduceIte,a9]
   refine qh (v := .int .i64 x40) rfl ?_
   obtain ⟨x43,hx44,hF45⟩:=qk hF42
   simp only [jl,B0,reduceIte,a9]
   obtain ⟨b46,hb47⟩:=a04 hv17 (j9 hx44)
   refine qh (a16 hv17 hb47 hx44) ?_
   simp only [zp,B0,reduceIte,a9]
   refine qb5 (f:=cI) (x':=x40) (o:=0) hv17 hS34 hW hb47 hx44 (fun _=>rfl) rfl rfl (nle rfl) rfl (fun c50 h48 hv51 hS49=>?_)
   have hx52:=kj (x':=x40) hx44
   simp only [qa,yl,qd,f37,qf,qz,qb,wn,qp,B0,reduceIte,a9]
   have e53:=qj hF45
   exact hN27 _ _ _ e53.symm ⟨c50,f35,f36,rfl,hv51,hS49⟩
  rw [iteF hc39] at hF24
  simp only [yy,yn,wh,B0,reduceIte,a9]
  have e54:=qj hF24
  exact hK28 _ _ _ e54.symm ⟨c16,f35,f36,f37,hv17,hS34⟩
 rintro ⟨s56,s57⟩ fr60 h61 rfl ⟨c58,f63,f64,f65,hv59,hS62⟩
 dsimp only [jnO] at hk23
 dsimp only at *
 unfold qh7 at hk23
 simp only [qc,qd,f64,qf,qa,qx,B0,reduceIte,a9]
 have he:=qj hk23
 subst he
 simp only [q8,B0,reduceIte,a9]
 exact ⟨v4,c58,by first | trivial | rfl,hv59,hS62⟩
theorem qjb {W:Nat→Bool}{h:Heap} (hW:∀ b,
  (geL h.length) b→W b=true) (k:Nat) (a_0:View) (r:View) (hF:qcq k a_0=some r) : Ret E W 56 [.agg [.int .i64 a_0.Epoch,.int .i64 a_0.Leader,
  lst cI a_0.InStep]] h (fun v h'=>∃ rv0_2 rc0_2,v = .agg [.int .i64 r.Epoch,.int .i64 r.Leader,
  rv0_2]∧SlF cI 1 3 rv0_2 r.InStep rc0_2∧Sep h' (geL h.length) (rc0_2++([]))):=by
 refine Ret.of (fn:=x56) rfl (Run.of ?_)
 unfold qcq at hF
 have zf0:zb [.agg [.int .i64 a_0.Epoch,.int .i64 a_0.Leader,lst cI a_0.InStep]] 0 = .agg [.int .i64 a_0.Epoch,.int .i64 a_0.Leader,lst cI a_0.InStep]:=rfl
 generalize zb [.agg [.int .i64 a_0.Epoch,.int .i64 a_0.Leader,lst cI a_0.InStep]]=fr0 at zf0 ⊢
 have hS:Sep h (geL h.length) []:=a0k h
 simp only [x56,qc,qd,jp,zf0,B0,reduceIte,a9]
 refine je (cs:=[.int .i64 a_0.Epoch,.int .i64 a_0.Leader,lst cI a_0.InStep]) hS rfl rfl rfl (fun b1 h2 hS3=>?_)
 simp only [kd,B0,reduceIte,a9]
 refine jt hS3 (fun b5 h6 hS7=>?_)
 simp only [qa,B0,reduceIte,a9]
 refine zx (n7 hS7) hW (by simp only [B0,reduceIte,a9]) (fun h9 hS10=>?_)
 simp only [zw,q3n,qc,qd,kd,B0,reduceIte,a9]
 refine jt hS10 (fun b11 h12 hS13=>?_)
 simp only [qa,q6x,qc,qd,qt,qb,d8,d9,e8,qs,qn,B0,reduceIte,a9]
 refine qh (v := .int .i64 a_0.Epoch) rfl ?_
 simp only [qt,qb,d8,d9,e8,zd,zp,B0,reduceIte,a9]
 refine zm (us:=[.int .i64 a_0.Epoch]) rfl (cs':=[.int .i64 a_0.Epoch,.int .i64 0,.nil]) hS13 hW rfl rfl (nle rfl) rfl (fun h15 hS16=>?_)
 simp only [qa,q4j,qc,qd,qt,qb,d8,d9,e8,qs,qn,B0,reduceIte,a9]
 refine qh (v := .int .i64 a_0.Leader) rfl ?_
 simp only [qt,qb,d8,d9,e8,zd,zp,B0,reduceIte,a9]
 refine zm (us:=[.int .i64 a_0.Leader]) rfl (cs':=[.int .i64 a_0.Epoch,.int .i64 a_0.Leader,.nil]) hS16 hW rfl rfl (nle rfl) rfl (fun h17 hS18=>?_)
 simp only [qa,q6e,qc,qd,qt,qb,d8,d9,e8,qs,qn,B0,reduceIte,a9]
 refine qh (v:=lst cI a_0.InStep) rfl ?_
 obtain ⟨v19,hx20,hF21⟩:=qk hF
 simp only [zg,B0,reduceIte,a9]
 refine qb1 rfl hS18 (qi zk zc) (qja (fun b hb=>decide_eq_true hb) k a_0.InStep v19 hx20) ?_
 rintro v22 h26 ⟨_,c23,rfl,hv24,hS27⟩
 refine ⟨_,qkd (a0n hv24),hS27,(jz (a1j hv24 (fun _=>rfl)) yu),fun h28 hS29=>?_⟩
 have hS30:Sep h28 (geL h.length) (c23++([Blk1 b11 [.int .i64 a_0.Epoch,.int .i64 a_0.Leader,.nil] 24]++([Blk1 b5 [.int .i64 0,.int .i64 0,
   .nil] 24]++([])))):=by simpa only [l5,List.nil_append] using hS29
 simp only [qt,qb,d8,d9,e8,zd,zp,B0,reduceIte,a9]
 refine zm (us:=[v22]) (kg (l7 hv24)) (cs':=[.int .i64 a_0.Epoch,.int .i64 a_0.Leader,
   v22]) (n7 hS30) hW rfl (qm (l7 hv24) zq) (nle rfl) rfl (fun h31 hS32=>?_)
 simp only [qa,qc,qd,qn,B0,reduceIte,a9]
 refine qh (v := .agg [.int .i64 a_0.Epoch,.int .i64 a_0.Leader,v22]) ((zu (o9 _ _ _ hS32)).trans rfl) ?_
 simp only [zp,B0,reduceIte,a9]
 refine zm (us:=[.int .i64 a_0.Epoch,.int .i64 a_0.Leader,v22]) rfl (cs':=[.int .i64 a_0.Epoch,.int .i64 a_0.Leader,
   v22]) (l9 hS32) hW rfl (qm rfl (qm rfl (qm (l7 hv24) zq))) (nle rfl) rfl (fun h33 hS34=>?_)
 simp only [qa,qx,B0,reduceIte,a9]
 have he:=qj hF21
 subst he
 refine yo (bb:=b5) (oo:=0) (v := .agg [.int .i64 a_0.Epoch,.int .i64 a_0.Leader,v22]) (by simp only [B0,reduceIte,
   a9]) ((zu (o9 _ _ _ hS34)).trans rfl) ?_
 exact ⟨v22,c23,by first | trivial | rfl,hv24,(Sep.dc ((Sep.dc (hS34))))⟩
theorem qou {W:Nat→Bool}{h:Heap} (hW:∀ b,
  (geL h.length) b→W b=true) (a_0:Row) (r:Row) (hF:some (qe1 a_0)=some r) : Ret E W 77 [.agg [.int .i64 a_0.Epoch,
  .int .i64 a_0.Value]] h (fun v h'=>cut h.length h' E.sz false 9 v=some (.agg [.int .i64 r.Epoch,.int .i64 r.Value])):=by
 refine Ret.of (fn:=x77) rfl (Run.of ?_)
 unfold qe1 at hF
 have zf0:zb [.agg [.int .i64 a_0.Epoch,.int .i64 a_0.Value]] 0 = .agg [.int .i64 a_0.Epoch,.int .i64 a_0.Value]:=rfl
 generalize zb [.agg [.int .i64 a_0.Epoch,.int .i64 a_0.Value]]=fr0 at zf0 ⊢
 have hS:Sep h (geL h.length) []:=a0k h
 simp only [x77,qc,qd,jp,zf0,B0,reduceIte,a9]
 refine je (cs:=[.int .i64 a_0.Epoch,.int .i64 a_0.Value]) hS rfl rfl rfl (fun b1 h2 hS3=>?_)
 simp only [kd,B0,reduceIte,a9]
 refine jt hS3 (fun b5 h6 hS7=>?_)
 simp only [qa,B0,reduceIte,a9]
 refine zx (n7 hS7) hW (by simp only [B0,reduceIte,a9]) (fun h9 hS10=>?_)
 simp only [zw,q0n,qc,qd,kd,B0,reduceIte,a9]
 refine jt hS10 (fun b11 h12 hS13=>?_)
 simp only [qa,q0j,qc,qd,qt,qb,d8,d9,e8,qs,qn,B0,reduceIte,a9]
 refine qh (v := .int .i64 a_0.Epoch) rfl ?_
 simp only [qt,qb,d8,d9,e8,zd,zp,B0,reduceIte,a9]
 refine zm (us:=[.int .i64 a_0.Epoch]) rfl (cs':=[.int .i64 a_0.Epoch,.int .i64 0]) hS13 hW rfl rfl (nle rfl) rfl (fun h15 hS16=>?_)
 simp only [qa,q41,qc,qd,qt,qb,d8,d9,e8,qs,qn,B0,reduceIte,a9]
 refine qh (v := .int .i64 a_0.Value) rfl ?_
 simp only [qt,qb,d8,d9,e8,zd,zp,B0,reduceIte,a9]
 refine zm (us:=[.int .i64 a_0.Value]) rfl (cs':=[.int .i64 a_0.Epoch,.int .i64 a_0.Value]) hS16 hW rfl rfl (nle rfl) rfl (fun h17 hS18=>?_)
 simp only [qa,qc,qd,qn,B0,reduceIte,a9]
 refine qh (v := .agg [.int .i64 a_0.Epoch,.int .i64 a_0.Value]) ((zu (o9 _ _ _ hS18)).trans rfl) ?_
 simp only [zp,B0,reduceIte,a9]
 refine zm (us:=[.int .i64 a_0.Epoch,.int .i64 a_0.Value]) rfl (cs':=[.int .i64 a_0.Epoch,
   .int .i64 a_0.Value]) (n7 hS18) hW rfl rfl (nle rfl) rfl (fun h19 hS20=>?_)
 simp only [qa,qx,B0,reduceIte,a9]
 have he:=qj hF
 subst he
 refine yo (bb:=b5) (oo:=0) (v := .agg [.int .i64 a_0.Epoch,.int .i64 a_0.Value]) (by simp only [B0,reduceIte,
   a9]) ((zu (o9 _ _ _ hS20)).trans rfl) ?_
 exact (qqx (qi rfl (qi rfl zc)))
theorem qjm {W:Nat→Bool}{h:Heap} (hW:∀ b,
  (geL h.length) b→W b=true) (k:Nat) (a_0:List Row) (r:List Row) (hF:qch k a_0=some r) : Ret E W 58 [lst qg a_0] h (fun v h'=>∃ rv0 rc0,
  v=rv0∧SlF qg 2 92 rv0 r rc0∧Sep h' (geL h.length) (rc0++([]))):=by
 refine Ret.of (fn:=x58) rfl (Run.of ?_)
 unfold qch at hF
 have zf0:zb [lst qg a_0] 0=lst qg a_0:=rfl
 generalize zb [lst qg a_0]=fr0 at zf0 ⊢
 have hS:Sep h (geL h.length) []:=a0k h
 obtain ⟨l1,hx2,hF3⟩:=qk hF
 simp only [x58,qc,qd,qf,qa,q29,zf0,zy,qb,jd,qid,B0,reduceIte,a9]
 refine qhe (f:=qg) (z:=(Row.mk (0:Int) (0:Int))) hS hx2 rfl (fun v4 c5 h6 hv7 hS8=>?_)
 simp only [qf,qa,q7s,qc,qd,B0,reduceIte,a9]
 obtain ⟨oc20,hX22,hk23⟩:=ka hF3
 simp only [q7u]
 refine w5 (σ:=Int × (List Row)) (fun s55=>qbr a_0 s55.1 s55.2) (fun s fr' h'=>∃ c16,
   fr' 0=lst qg a_0∧fr' 3=v4∧fr' 4 = .int .i64 s.1∧SlF qg 2 92 v4 s.2 c16∧Sep h' (geL h.length) (c16++([]))) hX22 ⟨c5,zf0,rfl,rfl,hv7,
   hS8⟩ (fun _ _ _ h=>h) ?_ ?_
 ·rintro ⟨s14,s15⟩ fr32 h33 ⟨c16,f35,f36,f37,hv17,hS34⟩ oc21 hF24 hr25 Q26 hN27 hK28 hR29 hE30
  dsimp only at *
  unfold qbr at hF24
  simp only [q4g,qc,qd,f37,qf,f35,zy,qb,jd,qz,kq,qa,q9,B0,reduceIte,a9]
  refine qy (t:=(decide (s14<(f0 a_0:Int)))) (fun hc39=>?_) (fun hc39=>?_)
  ·rw [iteT hc39] at hF24
   obtain ⟨x40,hx41,hF42⟩:=qk hF24
   simp only [zh,q0k,qc,kz,q6g,qd,f36,qf,f37,f35,jl,B0,reduceIte,a9]
   refine qh (v := .ref (qg x40) 0) (kx hx41 rfl) ?_
   simp only [qn,B0,reduceIte,a9]
   refine qh (v := .agg [.int .i64 x40.Epoch,.int .i64 x40.Value]) rfl ?_
   simp only [zg,B0,reduceIte,a9]
   refine jo rfl (qi (zv (qi qo (qi qo zc))) zc) (qou (fun b hb=>decide_eq_true hb) x40 _ rfl) ?_
   obtain ⟨x43,hx44,hF45⟩:=qk hF42
   simp only [jl,B0,reduceIte,a9]
   obtain ⟨b46,hb47⟩:=a04 hv17 (j9 hx44)
   refine qh (a16 hv17 hb47 hx44) ?_
   simp only [zp,B0,reduceIte,a9]
   refine qb5 (f:=qg) (x':=(qe1 x40)) (o:=0) hv17 hS34 hW hb47 hx44 (fun _=>rfl) rfl rfl (nle rfl) rfl (fun c50 h48 hv51 hS49=>?_)
   have hx52:=kj (x':=(qe1 x40)) hx44
   simp only [qa,yl,qd,f37,qf,qz,qb,wn,qp,B0,reduceIte,a9]
   have e53:=qj hF45
   exact hN27 _ _ _ e53.symm ⟨c50,f35,f36,rfl,hv51,hS49⟩
  rw [iteF hc39] at hF24
  simp only [yy,yn,wh,B0,reduceIte,a9]
  have e54:=qj hF24
  exact hK28 _ _ _ e54.symm ⟨c16,f35,f36,f37,hv17,hS34⟩
 rintro ⟨s56,s57⟩ fr60 h61 rfl ⟨c58,f63,f64,f65,hv59,hS62⟩
 dsimp only [jnO] at hk23
 dsimp only at *
 unfold qig at hk23
 simp only [qc,qd,f64,qf,qa,qx,B0,reduceIte,a9]
 have he:=qj hk23
 subst he
 simp only [q8,B0,reduceIte,a9]
 exact ⟨v4,c58,by first | trivial | rfl,hv59,hS62⟩
end Go.Proofs.Ytohofoampalhoaa.X
