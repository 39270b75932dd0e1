/- The functions' code comes to what the plain functions say (1). -/
import Derived.Test.YtohofoampalhoaaXMF
import Derived.Test.YtohofoampalhoaaXMD
open Go.IntKind renaming wrap→a0a
open List renaming append_assoc→a0f,drop_succ_cons→t9,drop_zero→a0c,length→t6,nil_append→a0z,take_succ_cons→t8,take_zero→a0d
open Nat renaming add_zero→t5,reduceAdd→s5,reduceEqDiff→a9,zero_add→s9
open Go.Proofs.Ytohofoampalhoaa.X.Sep renaming bk→a0r,dc→a0s,m1→a0l,m2→a0k,m3→a0e,nil→a1q
open Go.Proofs.Ytohofoampalhoaa.X.SlF renaming free1→a1r,nil→a25,one→a0g,pf→a2p,snap→a06
open Go.Proofs.Ytohofoampalhoaa.X.SlN renaming one→a10
set_option linter.unusedVariables false
set_option linter.unusedSimpArgs false
set_option maxRecDepth 100000
namespace Go.Proofs.Ytohofoampalhoaa.X
open Go
def Node.R:Rep Node:=fun x cs os=>∃ (v2:XV) (c2:List Obj) (v3:XV) (c3:List Obj) (v4:XV) (c4:List Obj),
  SlF cI 1 3 v2 x.View.InStep c2∧SlF qm 2 92 v3 x.Log c3∧SlF cI 1 3 v4 x.Known c4∧cs=[.int .i64 x.View.Epoch,.int .i64 x.View.Leader,v2,v3,v4,
  .int .i64 x.Told]∧c2++(c3++(c4))=os
theorem Node.RI {x:Node}{v2:XV}{c2:List Obj}(h2:SlF cI 1 3 v2 x.View.InStep c2){v3:XV}{c3:List Obj}
  (h3:SlF qm 2 92 v3 x.Log c3) {v4:XV} {c4:List Obj} (h4:SlF cI 1 3 v4 x.Known c4) : Node.R x [.int .i64 x.View.Epoch,.int .i64 x.View.Leader,v2,v3,v4,
  .int .i64 x.Told] (c2++(c3++(c4))):=⟨v2,c2,v3,c3,v4,c4,h2,h3,h4,rfl,rfl⟩
theorem Node.RO:RepOk E.sz Node.R qz 6 where
 len:=fun {x cs os} H=>by
  obtain ⟨v2,c2,v3,c3,v4,c4,h2,h3,h4,rfl,rfl⟩:=H
  rfl
 flen:=fun _=>rfl
 one:=fun {x cs os} H=>by
  obtain ⟨v2,c2,v3,c3,v4,c4,h2,h3,h4,rfl,rfl⟩:=H
  exact (qj rfl (qj rfl (qj (a0g h2) (qj (a0g h3) (qj (a0g h4) (qj rfl zq))))))
 snap:=fun {x cs os h lo S} m H hS=>by
  obtain ⟨v2,c2,v3,c3,v4,c4,h2,h3,h4,rfl,rfl⟩:=H
  have hS2:Sep h lo (c2++(c3++(c4++S))):=(by simpa only [a0f] using hS)
  exact (ql qs (ql qs (ql (a06 h2 hS2 rfl (fun _=>rfl) (fun _=>rfl)) (ql (a06 h3 (a0l hS2) rfl (fun _=>rfl) (fun _=>rfl)) (ql
    (a06 h4 (a0k hS2) rfl (fun _=>rfl) (fun _=>rfl)) (ql qs zh))))))
 cut:=fun {x cs os h lo n0 keep S} m H hS hge=>by
  obtain ⟨v2,c2,v3,c3,v4,c4,h2,h3,h4,rfl,rfl⟩:=H
  have hS2:Sep h lo (c2++(c3++(c4++S))):=(by simpa only [a0f] using hS)
  exact (ql rfl (ql rfl (ql (SlF.cut h2 hS2 hge rfl (fun _=>rfl) (fun _=>rfl)) (ql (SlF.cut h3 (a0l hS2) hge rfl (fun _=>rfl) (fun _=>rfl)) (ql
    (SlF.cut h4 (a0k hS2) hge rfl (fun _=>rfl) (fun _=>rfl)) (ql rfl zh))))))
 free:=fun {x cs os} H=>by
  obtain ⟨v2,c2,v3,c3,v4,c4,h2,h3,h4,rfl,rfl⟩:=H
  exact (qj rfl (qj rfl (qj (a1r h2) (qj (a1r h3) (qj (a1r h4) (qj rfl zq))))))
 pf:=fun {x cs os} H=>by
  obtain ⟨v2,c2,v3,c3,v4,c4,h2,h3,h4,rfl,rfl⟩:=H
  exact (j9 (a2p h2 (fun _=>rfl)) (j9 (a2p h3 (fun _=>rfl)) (a2p h4 (fun _=>rfl))))
theorem qjz {W:Nat→Bool}{h:Heap}{lo:Nat→Prop}{S0:List Obj} (hW:∀ b,
  lo b→W b=true) (pv0:XV) (pc0:List Obj) (s_0:List Int) (ph0:SlF cI 1 3 pv0 s_0 pc0) (i_1:Int) (pv2:XV) (pc2:List Obj) (r8:List Int)
  (ph2:SlF cI 1 3 pv2 r8 pc2) (r:List Int × List Int) (hF:qd1 s_0 i_1 r8=some r) (hS:Sep h lo (pc0++(pc2++S0))) : Ret E W 104 [pv0,.int .i64 i_1,
  pv2] h (fun v h'=>∃ rv0 rc0 ic2,v=rv0∧SlF cI 1 3 rv0 r.1 rc0∧SlF cI 1 3 pv2 r.2 ic2∧Sep h' lo (rc0++(ic2++S0))):=zdc rfl rfl hW ph0 ph2 hF hS
theorem qjr {W:Nat→Bool}{h:Heap} (hW:∀ b,
  (geL h.length) b→W b=true) (k:Nat) (i0:List Int) (i6:List Int) (r:Bool) (hF:qcw k i0 i6=some r) : Ret E W 20 [lst cI i0,
  lst cI i6] h (fun v h'=>cut h.length h' E.sz false 9 v=some (.bool r)):=by
 refine Ret.of (fn:=x20) rfl (Run.of ?_)
 unfold qcw at hF
 have zf0:zb [lst cI i0,lst cI i6] 0=lst cI i0:=rfl
 have zf1:zb [lst cI i0,lst cI i6] 1=lst cI i6:=rfl
 generalize zb [lst cI i0,lst cI i6]=fr0 at zf0 zf1 ⊢
 have hS:Sep h (geL h.length) []:=a1q h
 simp only [x20,qe,qc,qd,qa,qzv,zf0,zy,qb,je,zf1,qv,ya,qy,B0,reduceIte,a9]
 refine qu (t:=(decide ((t6 i0:Int)≠(t6 i6:Int)))) (fun hc1=>?_) (fun hc1=>?_)
 ·rw [iteT hc1] at hF
  simp only [qe,qc,qd,qa,qw,B0,reduceIte,a9]
  have he:=qh hF
  subst he
  simp only [q9,B0,reduceIte,a9]
  exact rfl
 rw [iteF hc1] at hF
 simp only [zf,q54,qe,qc,qd,qa,B0,reduceIte,a9]
 obtain ⟨oc6,hX8,hk9⟩:=jy hF
 simp only [q1g]
 refine y8 (σ:=Int) (fun s38=>qcc i0 i6 s38) (fun s fr' h'=>fr' 0=lst cI i0∧fr' 1=lst cI i6∧fr' 5 = .int .i64 s∧Sep h' (geL h.length)
   ([])) hX8 ⟨zf0,zf1,rfl,hS⟩ (fun _ _ _ h=>h) ?_ ?_
 ·rintro s3 fr18 h19 ⟨f21,f22,f23,hS20⟩ oc7 hF10 hr11 Q12 hN13 hK14 hR15 hE16
  unfold qcc at hF10
  simp only [q6t,qe,qc,f23,qd,f21,zy,qb,je,qv,k6,qa,qy,B0,reduceIte,a9]
  refine qu (t:=(decide (s3<(t6 i0:Int)))) (fun hc25=>?_) (fun hc25=>?_)
  ·rw [iteT hc25] at hF10
   obtain ⟨x26,hx27,hF28⟩:=qi hF10
   simp only [zf,q3o,qe,kj,qzl,js,f21,zv,qk,f23,yv,B0,reduceIte,a9]
   refine qt (v := .ref (cI x26) 0) (kw hx27 rfl) ?_
   simp only [zu,B0,reduceIte,a9]
   refine qt (v := .int .i64 x26) rfl ?_
   obtain ⟨x29,hx30,hF31⟩:=qi hF28
   simp only [f22,zv,qk,f23,yv,B0,reduceIte,a9]
   refine qt (v := .ref (cI x29) 0) (kw hx30 rfl) ?_
   simp only [zu,B0,reduceIte,a9]
   refine qt (v := .int .i64 x29) rfl ?_
   simp only [yg,qk,ya,zc,qy,B0,reduceIte,a9]
   refine qu (t:=(decide (x26≠x29))) (fun hc32=>?_) (fun hc32=>?_)
   ·rw [iteT hc32] at hF31
    simp only [qe,qc,qd,qa,qw,B0,reduceIte,a9]
    have e33:=qh hF31
    subst e33
    have ho34:=hr11 _ rfl
    have hk35:=hk9
    rw [ho34] at hk35
    dsimp only [jnO] at hk35
    apply hR15
    have he:=qh hk35
    subst he
    simp only [q9,B0,reduceIte,a9]
    exact rfl
   rw [iteF hc32] at hF31
   simp only [zf,yd,qc,f23,qd,qv,qb,yx,qa,qo,B0,reduceIte,a9]
   have e36:=qh hF31
   exact hN13 _ _ _ e36.symm ⟨f21,f22,rfl,hS20⟩
  rw [iteF hc25] at hF10
  simp only [yf,yc,yp,B0,reduceIte,a9]
  have e37:=qh hF10
  exact hK14 _ _ _ e37.symm ⟨f21,f22,f23,hS20⟩
 rintro s39 fr40 h41 rfl ⟨f43,f44,f45,hS42⟩
 dsimp only [jnO] at hk9
 unfold qit at hk9
 simp only [qe,qc,qd,qa,qw,B0,reduceIte,a9]
 have he:=qh hk9
 subst he
 simp only [q9,B0,reduceIte,a9]
 exact rfl
theorem qjs {W:Nat→Bool}{h:Heap} (hW:∀ b,
  (geL h.length) b→W b=true) (k:Nat) (i0:View) (i6:View) (r:Bool) (hF:qcu k i0 i6=some r) : Ret E W 41 [.agg [.int .i64 i0.Epoch,
  .int .i64 i0.Leader,lst cI i0.InStep],.agg [.int .i64 i6.Epoch,.int .i64 i6.Leader,
  lst cI i6.InStep]] h (fun v h'=>cut h.length h' E.sz false 9 v=some (.bool r)):=by
 refine Ret.of (fn:=x41) rfl (Run.of ?_)
 unfold qcu at hF
 have zf0:zb [.agg [.int .i64 i0.Epoch,.int .i64 i0.Leader,lst cI i0.InStep],.agg [.int .i64 i6.Epoch,.int .i64 i6.Leader,
   lst cI i6.InStep]] 0 = .agg [.int .i64 i0.Epoch,.int .i64 i0.Leader,lst cI i0.InStep]:=rfl
 have zf1:zb [.agg [.int .i64 i0.Epoch,.int .i64 i0.Leader,lst cI i0.InStep],.agg [.int .i64 i6.Epoch,.int .i64 i6.Leader,
   lst cI i6.InStep]] 1 = .agg [.int .i64 i6.Epoch,.int .i64 i6.Leader,lst cI i6.InStep]:=rfl
 generalize zb [.agg [.int .i64 i0.Epoch,.int .i64 i0.Leader,lst cI i0.InStep],.agg [.int .i64 i6.Epoch,.int .i64 i6.Leader,lst cI i6.InStep]]=fr0 at zf0 zf1 ⊢
 have hS:Sep h (geL h.length) []:=a1q h
 simp only [x41,qe,qc,j7,zf0,B0,reduceIte,a9]
 refine jm (cs:=[.int .i64 i0.Epoch,.int .i64 i0.Leader,lst cI i0.InStep]) hS rfl rfl rfl (fun b1 h2 hS3=>?_)
 simp only [j7,zf1,B0,reduceIte,a9]
 refine jm (cs:=[.int .i64 i6.Epoch,.int .i64 i6.Leader,lst cI i6.InStep]) hS3 rfl rfl rfl (fun b5 h6 hS7=>?_)
 simp only [qd,qa,B0,reduceIte,a9]
 refine jc (a0l hS7) hW (by simp only [B0,reduceIte,a9]) (fun h9 hS10=>?_)
 refine jc hS10 hW (by simp only [B0,reduceIte,a9]) (fun h11 hS12=>?_)
 simp only [jd,q36,qe,qc,qq,qb,s5,s9,t5,qr,qn,B0,reduceIte,a9]
 refine qg (v := .int .i64 i0.Epoch) rfl ?_
 simp only [qq,qb,s5,s9,t5,qr,qn,B0,reduceIte,a9]
 refine qg (v := .int .i64 i6.Epoch) rfl ?_
 simp only [qv,qb,ya,qa,qy,B0,reduceIte,a9]
 refine qu (t:=(decide (i0.Epoch≠i6.Epoch))) (fun hc13=>?_) (fun hc13=>?_)
 ·rw [iteT hc13] at hF
  simp only [qe,qc,qd,qa,qw,B0,reduceIte,a9]
  have he:=qh hF
  subst he
  simp only [q9,B0,reduceIte,a9]
  exact rfl
 rw [iteF hc13] at hF
 simp only [zf,q07,qe,qc,qq,qb,s5,s9,t5,qr,qn,B0,reduceIte,a9]
 refine qg (v := .int .i64 i0.Leader) rfl ?_
 simp only [qq,qb,s5,s9,t5,qr,qn,B0,reduceIte,a9]
 refine qg (v := .int .i64 i6.Leader) rfl ?_
 simp only [qv,qb,ya,qa,qy,B0,reduceIte,a9]
 refine qu (t:=(decide (i0.Leader≠i6.Leader))) (fun hc14=>?_) (fun hc14=>?_)
 ·rw [iteT hc14] at hF
  simp only [qe,qc,qd,qa,qw,B0,reduceIte,a9]
  have he:=qh hF
  subst he
  simp only [q9,B0,reduceIte,a9]
  exact rfl
 rw [iteF hc14] at hF
 simp only [zf,q0s,qe,qc,qq,qb,s5,s9,t5,qr,qn,B0,reduceIte,a9]
 refine qg (v:=lst cI i0.InStep) rfl ?_
 simp only [qq,qb,s5,s9,t5,qr,qn,B0,reduceIte,a9]
 refine qg (v:=lst cI i6.InStep) rfl ?_
 obtain ⟨v15,hx16,hF17⟩:=qi hF
 simp only [zi,B0,reduceIte,a9]
 refine ju rfl (ql z8 (ql z8 zh)) (qjr (fun b hb=>decide_eq_true hb) k i0.InStep i6.InStep v15 hx16) ?_
 simp only [kh,qb,kz,qa,qy,B0,reduceIte,a9]
 refine qu (t:=(!v15)) (fun hc18=>?_) (fun hc18=>?_)
 ·rw [iteT hc18] at hF17
  simp only [qe,qc,qd,qa,qw,B0,reduceIte,a9]
  have he:=qh hF17
  subst he
  simp only [q9,B0,reduceIte,a9]
  exact rfl
 rw [iteF hc18] at hF17
 simp only [zf,qe,qc,qd,qa,qw,B0,reduceIte,a9]
 have he:=qh hF17
 subst he
 simp only [q9,B0,reduceIte,a9]
 exact rfl
theorem qpv {W:Nat→Bool}{h:Heap} (hW:∀ b,
  (geL h.length) b→W b=true) (i0:Row) (i6:Row) (r:Bool) (hF:qe3 i0 i6=some r) : Ret E W 69 [.agg [.int .i64 i0.Epoch,.int .i64 i0.Value],
  .agg [.int .i64 i6.Epoch,.int .i64 i6.Value]] h (fun v h'=>cut h.length h' E.sz false 9 v=some (.bool r)):=by
 refine Ret.of (fn:=x69) rfl (Run.of ?_)
 unfold qe3 at hF
 have zf0:zb [.agg [.int .i64 i0.Epoch,.int .i64 i0.Value],.agg [.int .i64 i6.Epoch,.int .i64 i6.Value]] 0 = .agg [.int .i64 i0.Epoch,.int .i64 i0.Value]:=rfl
 have zf1:zb [.agg [.int .i64 i0.Epoch,.int .i64 i0.Value],.agg [.int .i64 i6.Epoch,.int .i64 i6.Value]] 1 = .agg [.int .i64 i6.Epoch,.int .i64 i6.Value]:=rfl
 generalize zb [.agg [.int .i64 i0.Epoch,.int .i64 i0.Value],.agg [.int .i64 i6.Epoch,.int .i64 i6.Value]]=fr0 at zf0 zf1 ⊢
 have hS:Sep h (geL h.length) []:=a1q h
 simp only [x69,qe,qc,j7,zf0,B0,reduceIte,a9]
 refine jm (cs:=[.int .i64 i0.Epoch,.int .i64 i0.Value]) hS rfl rfl rfl (fun b1 h2 hS3=>?_)
 simp only [j7,zf1,B0,reduceIte,a9]
 refine jm (cs:=[.int .i64 i6.Epoch,.int .i64 i6.Value]) hS3 rfl rfl rfl (fun b5 h6 hS7=>?_)
 simp only [qd,qa,B0,reduceIte,a9]
 refine jc (a0l hS7) hW (by simp only [B0,reduceIte,a9]) (fun h9 hS10=>?_)
 refine jc hS10 hW (by simp only [B0,reduceIte,a9]) (fun h11 hS12=>?_)
 simp only [jd,q03,qe,qc,qq,qb,s5,s9,t5,qr,qn,B0,reduceIte,a9]
 refine qg (v := .int .i64 i0.Epoch) rfl ?_
 simp only [qq,qb,s5,s9,t5,qr,qn,B0,reduceIte,a9]
 refine qg (v := .int .i64 i6.Epoch) rfl ?_
 simp only [qv,qb,ya,qa,qy,B0,reduceIte,a9]
 refine qu (t:=(decide (i0.Epoch≠i6.Epoch))) (fun hc13=>?_) (fun hc13=>?_)
 ·rw [iteT hc13] at hF
  simp only [qe,qc,qd,qa,qw,B0,reduceIte,a9]
  have he:=qh hF
  subst he
  simp only [q9,B0,reduceIte,a9]
  exact rfl
 rw [iteF hc13] at hF
 simp only [zf,q6v,qe,qc,qq,qb,s5,s9,t5,qr,qn,B0,reduceIte,a9]
 refine qg (v := .int .i64 i0.Value) rfl ?_
 simp only [qq,qb,s5,s9,t5,qr,qn,B0,reduceIte,a9]
 refine qg (v := .int .i64 i6.Value) rfl ?_
 simp only [qv,qb,ya,qa,qy,B0,reduceIte,a9]
 refine qu (t:=(decide (i0.Value≠i6.Value))) (fun hc14=>?_) (fun hc14=>?_)
 ·rw [iteT hc14] at hF
  simp only [qe,qc,qd,qa,qw,B0,reduceIte,a9]
  have he:=qh hF
  subst he
  simp only [q9,B0,reduceIte,a9]
  exact rfl
 rw [iteF hc14] at hF
 simp only [zf,qe,qc,qd,qa,qw,B0,reduceIte,a9]
 have he:=qh hF
 subst he
 simp only [q9,B0,reduceIte,a9]
 exact rfl
theorem qjv {W:Nat→Bool}{h:Heap} (hW:∀ b,
  (geL h.length) b→W b=true) (k:Nat) (i0:List Row) (i6:List Row) (r:Bool) (hF:qct k i0 i6=some r) : Ret E W 43 [lst qm i0,
  lst qm i6] h (fun v h'=>cut h.length h' E.sz false 9 v=some (.bool r)):=by
 refine Ret.of (fn:=x43) rfl (Run.of ?_)
 unfold qct at hF
 have zf0:zb [lst qm i0,lst qm i6] 0=lst qm i0:=rfl
 have zf1:zb [lst qm i0,lst qm i6] 1=lst qm i6:=rfl
 generalize zb [lst qm i0,lst qm i6]=fr0 at zf0 zf1 ⊢
 have hS:Sep h (geL h.length) []:=a1q h
 simp only [x43,qe,qc,qd,qa,q7o,zf0,zy,qb,je,zf1,qv,ya,qy,B0,reduceIte,a9]
 refine qu (t:=(decide ((t6 i0:Int)≠(t6 i6:Int)))) (fun hc1=>?_) (fun hc1=>?_)
 ·rw [iteT hc1] at hF
  simp only [qe,qc,qd,qa,qw,B0,reduceIte,a9]
  have he:=qh hF
  subst he
  simp only [q9,B0,reduceIte,a9]
  exact rfl
 rw [iteF hc1] at hF
 simp only [zf,qzw,qe,qc,qd,qa,B0,reduceIte,a9]
 obtain ⟨oc6,hX8,hk9⟩:=jy hF
 simp only [q6h]
 refine y8 (σ:=Int) (fun s41=>qb2 i0 i6 s41) (fun s fr' h'=>fr' 0=lst qm i0∧fr' 1=lst qm i6∧fr' 5 = .int .i64 s∧Sep h'
   (geL h.length) ([])) hX8 ⟨zf0,zf1,rfl,hS⟩ (fun _ _ _ h=>h) ?_ ?_
 ·rintro s3 fr18 h19 ⟨f21,f22,f23,hS20⟩ oc7 hF10 hr11 Q12 hN13 hK14 hR15 hE16
  unfold qb2 at hF10
  simp only [q5z,qe,qc,f23,qd,f21,zy,qb,je,qv,k6,qa,qy,B0,reduceIte,a9]
  refine qu (t:=(decide (s3<(t6 i0:Int)))) (fun hc25=>?_) (fun hc25=>?_)
  ·rw [iteT hc25] at hF10
   obtain ⟨x26,hx27,hF28⟩:=qi hF10
   simp only [zf,q78,qe,kj,q4k,js,f21,zv,qk,f23,yv,B0,reduceIte,a9]
   refine qt (v := .ref (qm x26) 0) (kw hx27 rfl) ?_
   simp only [zu,B0,reduceIte,a9]
   refine qt (v := .agg [.int .i64 x26.Epoch,.int .i64 x26.Value]) rfl ?_
   obtain ⟨x29,hx30,hF31⟩:=qi hF28
   simp only [f22,zv,qk,f23,yv,B0,reduceIte,a9]
   refine qt (v := .ref (qm x29) 0) (kw hx30 rfl) ?_
   simp only [zu,B0,reduceIte,a9]
   refine qt (v := .agg [.int .i64 x29.Epoch,.int .i64 x29.Value]) rfl ?_
   obtain ⟨v32,hx33,hF34⟩:=qi hF31
   simp only [y9,B0,reduceIte,a9]
   refine qc3 rfl (ql (jo (ql qs (ql qs zh))) (ql (jo (ql qs (ql qs zh))) zh)) (qpv
     (fun b hb=>decide_eq_true hb) x26 x29 v32 hx33) ?_
   simp only [qeu,qk,kz,zc,qy,B0,reduceIte,a9]
   refine qu (t:=(!v32)) (fun hc35=>?_) (fun hc35=>?_)
   ·rw [iteT hc35] at hF34
    simp only [qe,qc,qd,qa,qw,B0,reduceIte,a9]
    have e36:=qh hF34
    subst e36
    have ho37:=hr11 _ rfl
    have hk38:=hk9
    rw [ho37] at hk38
    dsimp only [jnO] at hk38
    apply hR15
    have he:=qh hk38
    subst he
    simp only [q9,B0,reduceIte,a9]
    exact rfl
   rw [iteF hc35] at hF34
   simp only [zf,yd,qc,f23,qd,qv,qb,yx,qa,qo,B0,reduceIte,a9]
   have e39:=qh hF34
   exact hN13 _ _ _ e39.symm ⟨f21,f22,rfl,hS20⟩
  rw [iteF hc25] at hF10
  simp only [yf,yc,yp,B0,reduceIte,a9]
  have e40:=qh hF10
  exact hK14 _ _ _ e40.symm ⟨f21,f22,f23,hS20⟩
 rintro s42 fr43 h44 rfl ⟨f46,f47,f48,hS45⟩
 dsimp only [jnO] at hk9
 unfold qiv at hk9
 simp only [qe,qc,qd,qa,qw,B0,reduceIte,a9]
 have he:=qh hk9
 subst he
 simp only [q9,B0,reduceIte,a9]
 exact rfl
theorem qoc {W:Nat→Bool}{h:Heap} (hW:∀ b,
  (geL h.length) b→W b=true) (k:Nat) (i0:Node) (i6:Node) (r:Bool) (hF:qea k i0 i6=some r) : Ret E W 68 [.agg [.int .i64 i0.View.Epoch,
  .int .i64 i0.View.Leader,lst cI i0.View.InStep,lst qm i0.Log,lst cI i0.Known,.int .i64 i0.Told],.agg [.int .i64 i6.View.Epoch,.int .i64 i6.View.Leader,
  lst cI i6.View.InStep,lst qm i6.Log,lst cI i6.Known,.int .i64 i6.Told]] h (fun v h'=>cut h.length h' E.sz false 9 v=some (.bool r)):=by
 refine Ret.of (fn:=x68) rfl (Run.of ?_)
 unfold qea at hF
 have zf0:zb [.agg [.int .i64 i0.View.Epoch,.int .i64 i0.View.Leader,lst cI i0.View.InStep,lst qm i0.Log,lst cI i0.Known,.int .i64 i0.Told],
   .agg [.int .i64 i6.View.Epoch,.int .i64 i6.View.Leader,lst cI i6.View.InStep,lst qm i6.Log,lst cI i6.Known,
   .int .i64 i6.Told]] 0 = .agg [.int .i64 i0.View.Epoch,.int .i64 i0.View.Leader,lst cI i0.View.InStep,lst qm i0.Log,lst cI i0.Known,
   .int .i64 i0.Told]:=rfl
 have zf1:zb [.agg [.int .i64 i0.View.Epoch,.int .i64 i0.View.Leader,lst cI i0.View.InStep,lst qm i0.Log,lst cI i0.Known,.int .i64 i0.Told],
   .agg [.int .i64 i6.View.Epoch,.int .i64 i6.View.Leader,lst cI i6.View.InStep,lst qm i6.Log,lst cI i6.Known,
   .int .i64 i6.Told]] 1 = .agg [.int .i64 i6.View.Epoch,.int .i64 i6.View.Leader,lst cI i6.View.InStep,lst qm i6.Log,lst cI i6.Known,
   .int .i64 i6.Told]:=rfl
 generalize zb [.agg [.int .i64 i0.View.Epoch,.int .i64 i0.View.Leader,lst cI i0.View.InStep,lst qm i0.Log,lst cI i0.Known,.int .i64 i0.Told],
   .agg [.int .i64 i6.View.Epoch,.int .i64 i6.View.Leader,lst cI i6.View.InStep,lst qm i6.Log,lst cI i6.Known,.int .i64 i6.Told]]=fr0 at zf0 zf1 ⊢
 have hS:Sep h (geL h.length) []:=a1q h
 simp only [x68,qe,qc,j7,zf0,B0,reduceIte,a9]
 refine jm (cs:=[.int .i64 i0.View.Epoch,.int .i64 i0.View.Leader,lst cI i0.View.InStep,lst qm i0.Log,lst cI i0.Known,
   .int .i64 i0.Told]) hS rfl rfl rfl (fun b1 h2 hS3=>?_)
 simp only [j7,zf1,B0,reduceIte,a9]
 refine jm (cs:=[.int .i64 i6.View.Epoch,.int .i64 i6.View.Leader,lst cI i6.View.InStep,lst qm i6.Log,lst cI i6.Known,
   .int .i64 i6.Told]) hS3 rfl rfl rfl (fun b5 h6 hS7=>?_)
 simp only [qd,qa,B0,reduceIte,a9]
 refine jc (a0l hS7) hW (by simp only [B0,reduceIte,a9]) (fun h9 hS10=>?_)
 refine jc hS10 hW (by simp only [B0,reduceIte,a9]) (fun h11 hS12=>?_)
 simp only [jd,q6n,qe,qc,qq,qb,s5,s9,t5,qr,qn,B0,reduceIte,a9]
 refine qg (v := .agg [.int .i64 i0.View.Epoch,.int .i64 i0.View.Leader,lst cI i0.View.InStep]) rfl ?_
 simp only [qq,qb,s5,s9,t5,qr,qn,B0,reduceIte,a9]
 refine qg (v := .agg [.int .i64 i6.View.Epoch,.int .i64 i6.View.Leader,lst cI i6.View.InStep]) rfl ?_
 obtain ⟨v13,hx14,hF15⟩:=qi hF
 simp only [zi,B0,reduceIte,a9]
 refine ju rfl (ql (jo (ql qs (ql qs (ql z8 zh)))) (ql (jo (ql qs (ql qs (ql z8 zh)))) zh))
   (qjs (fun b hb=>decide_eq_true hb) k i0.View i6.View v13 hx14) ?_
 simp only [kh,qb,kz,qa,qy,B0,reduceIte,a9]
 refine qu (t:=(!v13)) (fun hc16=>?_) (fun hc16=>?_)
 ·rw [iteT hc16] at hF15
  simp only [qe,qc,qd,qa,qw,B0,reduceIte,a9]
  have he:=qh hF15
  subst he
  simp only [q9,B0,reduceIte,a9]
  exact rfl
 rw [iteF hc16] at hF15
 simp only [zf,q5x,qe,qc,qq,qb,s5,s9,t5,qr,qn,B0,reduceIte,a9]
 refine qg (v:=lst qm i0.Log) rfl ?_
 simp only [qq,qb,s5,s9,t5,qr,qn,B0,reduceIte,a9]
 refine qg (v:=lst qm i6.Log) rfl ?_
 obtain ⟨v17,hx18,hF19⟩:=qi hF15
 simp only [zi,B0,reduceIte,a9]
 refine ju rfl (ql z8 (ql z8 zh)) (qjv (fun b hb=>decide_eq_true hb) k i0.Log i6.Log v17 hx18) ?_
 simp only [kh,qb,kz,qa,qy,B0,reduceIte,a9]
 refine qu (t:=(!v17)) (fun hc20=>?_) (fun hc20=>?_)
 ·rw [iteT hc20] at hF19
  simp only [qe,qc,qd,qa,qw,B0,reduceIte,a9]
  have he:=qh hF19
  subst he
  simp only [q9,B0,reduceIte,a9]
  exact rfl
 rw [iteF hc20] at hF19
 simp only [zf,q08,qe,qc,qq,qb,s5,s9,t5,qr,qn,B0,reduceIte,a9]
 refine qg (v:=lst cI i0.Known) rfl ?_
 simp only [qq,qb,s5,s9,t5,qr,qn,B0,reduceIte,a9]
 refine qg (v:=lst cI i6.Known) rfl ?_
 obtain ⟨v21,hx22,hF23⟩:=qi hF19
 simp only [zi,B0,reduceIte,a9]
 refine ju rfl (ql z8 (ql z8 zh)) (qjr (fun b hb=>decide_eq_true hb) k i0.Known i6.Known v21 hx22) ?_
 simp only [kh,qb,kz,qa,qy,B0,reduceIte,a9]
 refine qu (t:=(!v21)) (fun hc24=>?_) (fun hc24=>?_)
 ·rw [iteT hc24] at hF23
  simp only [qe,qc,qd,qa,qw,B0,reduceIte,a9]
  have he:=qh hF23
  subst he
  simp only [q9,B0,reduceIte,a9]
  exact rfl
 rw [iteF hc24] at hF23
 simp only [zf,q5y,qe,qc,qq,qb,s5,s9,t5,qr,qn,B0,reduceIte,a9]
 refine qg (v := .int .i64 i0.Told) rfl ?_
 simp only [qq,qb,s5,s9,t5,qr,qn,B0,reduceIte,a9]
 refine qg (v := .int .i64 i6.Told) rfl ?_
 simp only [qv,qb,ya,qa,qy,B0,reduceIte,a9]
 refine qu (t:=(decide (i0.Told≠i6.Told))) (fun hc25=>?_) (fun hc25=>?_)
 ·rw [iteT hc25] at hF23
  simp only [qe,qc,qd,qa,qw,B0,reduceIte,a9]
  have he:=qh hF23
  subst he
  simp only [q9,B0,reduceIte,a9]
  exact rfl
 rw [iteF hc25] at hF23
 simp only [zf,qe,qc,qd,qa,qw,B0,reduceIte,a9]
 have he:=qh hF23
 subst he
 simp only [q9,B0,reduceIte,a9]
 exact rfl
theorem qnc {W:Nat→Bool}{h:Heap} (hW:∀ b,
  (geL h.length) b→W b=true) (k:Nat) (i0:List Node) (i6:List Node) (r:Bool) (hF:qdm k i0 i6=some r) : Ret E W 42 [lst qz i0,
  lst qz i6] h (fun v h'=>cut h.length h' E.sz false 9 v=some (.bool r)):=by
 refine Ret.of (fn:=x42) rfl (Run.of ?_)
 unfold qdm at hF
 have zf0:zb [lst qz i0,lst qz i6] 0=lst qz i0:=rfl
 have zf1:zb [lst qz i0,lst qz i6] 1=lst qz i6:=rfl
 generalize zb [lst qz i0,lst qz i6]=fr0 at zf0 zf1 ⊢
 have hS:Sep h (geL h.length) []:=a1q h
 simp only [x42,qe,qc,qd,qa,qz1,zf0,zy,qb,je,zf1,qv,ya,qy,B0,reduceIte,a9]
 refine qu (t:=(decide ((t6 i0:Int)≠(t6 i6:Int)))) (fun hc1=>?_) (fun hc1=>?_)
 ·rw [iteT hc1] at hF
  simp only [qe,qc,qd,qa,qw,B0,reduceIte,a9]
  have he:=qh hF
  subst he
  simp only [q9,B0,reduceIte,a9]
  exact rfl
 rw [iteF hc1] at hF
 simp only [zf,q5c,qe,qc,qd,qa,B0,reduceIte,a9]
 obtain ⟨oc6,hX8,hk9⟩:=jy hF
 simp only [qzx]
 refine y8 (σ:=Int) (fun s41=>qbg k i0 i6 s41) (fun s fr' h'=>fr' 0=lst qz i0∧fr' 1=lst qz i6∧fr' 5 = .int .i64 s∧Sep h'
   (geL h.length) ([])) hX8 ⟨zf0,zf1,rfl,hS⟩ (fun _ _ _ h=>h) ?_ ?_
 ·rintro s3 fr18 h19 ⟨f21,f22,f23,hS20⟩ oc7 hF10 hr11 Q12 hN13 hK14 hR15 hE16
  unfold qbg at hF10
  simp only [q3w,qe,qc,f23,qd,f21,zy,qb,je,qv,k6,qa,qy,B0,reduceIte,a9]
  refine qu (t:=(decide (s3<(t6 i0:Int)))) (fun hc25=>?_) (fun hc25=>?_)
  ·rw [iteT hc25] at hF10
   obtain ⟨x26,hx27,hF28⟩:=qi hF10
   simp only [zf,q4q,qe,kj,q6l,js,f21,zv,qk,f23,yv,B0,reduceIte,a9]
   refine qt (v := .ref (qz x26) 0) (kw hx27 rfl) ?_
   simp only [zu,B0,reduceIte,a9]
   refine qt (v := .agg [.int .i64 x26.View.Epoch,.int .i64 x26.View.Leader,lst cI x26.View.InStep,lst qm x26.Log,lst cI x26.Known,.int .i64 x26.Told]) rfl ?_
   obtain ⟨x29,hx30,hF31⟩:=qi hF28
   simp only [f22,zv,qk,f23,yv,B0,reduceIte,a9]
   refine qt (v := .ref (qz x29) 0) (kw hx30 rfl) ?_
   simp only [zu,B0,reduceIte,a9]
   refine qt (v := .agg [.int .i64 x29.View.Epoch,.int .i64 x29.View.Leader,lst cI x29.View.InStep,lst qm x29.Log,lst cI x29.Known,.int .i64 x29.Told]) rfl ?_
   obtain ⟨v32,hx33,hF34⟩:=qi hF31
   simp only [y9,B0,reduceIte,a9]
   refine qc3 rfl (ql (jo (ql qs (ql qs (ql z8 (ql z8 (ql z8 (ql qs zh))))))) (ql (jo
     (ql qs (ql qs (ql z8 (ql z8 (ql z8 (ql qs zh))))))) zh)) (qoc
     (fun b hb=>decide_eq_true hb) k x26 x29 v32 hx33) ?_
   simp only [qeu,qk,kz,zc,qy,B0,reduceIte,a9]
   refine qu (t:=(!v32)) (fun hc35=>?_) (fun hc35=>?_)
   ·rw [iteT hc35] at hF34
    simp only [qe,qc,qd,qa,qw,B0,reduceIte,a9]
    have e36:=qh hF34
    subst e36
    have ho37:=hr11 _ rfl
    have hk38:=hk9
    rw [ho37] at hk38
    dsimp only [jnO] at hk38
    apply hR15
    have he:=qh hk38
    subst he
    simp only [q9,B0,reduceIte,a9]
    exact rfl
   rw [iteF hc35] at hF34
   simp only [zf,yd,qc,f23,qd,qv,qb,yx,qa,qo,B0,reduceIte,a9]
   have e39:=qh hF34
   exact hN13 _ _ _ e39.symm ⟨f21,f22,rfl,hS20⟩
  rw [iteF hc25] at hF10
  simp only [yf,yc,yp,B0,reduceIte,a9]
  have e40:=qh hF10
  exact hK14 _ _ _ e40.symm ⟨f21,f22,f23,hS20⟩
 rintro s42 fr43 h44 rfl ⟨f46,f47,f48,hS45⟩
 dsimp only [jnO] at hk9
 unfold qh3 at hk9
 simp only [qe,qc,qd,qa,qw,B0,reduceIte,a9]
 have he:=qh hk9
 subst he
 simp only [q9,B0,reduceIte,a9]
 exact rfl
theorem qel {W:Nat→Bool}{h:Heap} (hW:∀ b,
  (geL h.length) b→W b=true) (k:Nat) (i0:Cluster) (i6:Cluster) (r:Bool) (hF:uc k i0 i6=some r) : Ret E W 11 [.agg [.int .i64 i0.Truth.Epoch,
  .int .i64 i0.Truth.Leader,lst cI i0.Truth.InStep,lst qz i0.Nodes,lst qm i0.Acked],.agg [.int .i64 i6.Truth.Epoch,.int .i64 i6.Truth.Leader,
  lst cI i6.Truth.InStep,lst qz i6.Nodes,lst qm i6.Acked]] h (fun v h'=>cut h.length h' E.sz false 9 v=some (.bool r)):=by
 refine Ret.of (fn:=x11) rfl (Run.of ?_)
 unfold uc at hF
 have zf0:zb [.agg [.int .i64 i0.Truth.Epoch,.int .i64 i0.Truth.Leader,lst cI i0.Truth.InStep,lst qz i0.Nodes,lst qm i0.Acked],
   .agg [.int .i64 i6.Truth.Epoch,.int .i64 i6.Truth.Leader,lst cI i6.Truth.InStep,lst qz i6.Nodes,
   lst qm i6.Acked]] 0 = .agg [.int .i64 i0.Truth.Epoch,.int .i64 i0.Truth.Leader,lst cI i0.Truth.InStep,lst qz i0.Nodes,lst qm i0.Acked]:=rfl
 have zf1:zb [.agg [.int .i64 i0.Truth.Epoch,.int .i64 i0.Truth.Leader,lst cI i0.Truth.InStep,lst qz i0.Nodes,lst qm i0.Acked],
   .agg [.int .i64 i6.Truth.Epoch,.int .i64 i6.Truth.Leader,lst cI i6.Truth.InStep,lst qz i6.Nodes,
   lst qm i6.Acked]] 1 = .agg [.int .i64 i6.Truth.Epoch,.int .i64 i6.Truth.Leader,lst cI i6.Truth.InStep,lst qz i6.Nodes,lst qm i6.Acked]:=rfl
 generalize zb [.agg [.int .i64 i0.Truth.Epoch,.int .i64 i0.Truth.Leader,lst cI i0.Truth.InStep,lst qz i0.Nodes,lst qm i0.Acked],
   .agg [.int .i64 i6.Truth.Epoch,.int .i64 i6.Truth.Leader,lst cI i6.Truth.InStep,lst qz i6.Nodes,lst qm i6.Acked]]=fr0 at zf0 zf1 ⊢
 have hS:Sep h (geL h.length) []:=a1q h
 simp only [x11,qe,qc,j7,zf0,B0,reduceIte,a9]
 refine jm (cs:=[.int .i64 i0.Truth.Epoch,.int .i64 i0.Truth.Leader,lst cI i0.Truth.InStep,lst qz i0.Nodes,
   lst qm i0.Acked]) hS rfl rfl rfl (fun b1 h2 hS3=>?_)
 simp only [j7,zf1,B0,reduceIte,a9]
 refine jm (cs:=[.int .i64 i6.Truth.Epoch,.int .i64 i6.Truth.Leader,lst cI i6.Truth.InStep,lst qz i6.Nodes,
   lst qm i6.Acked]) hS3 rfl rfl rfl (fun b5 h6 hS7=>?_)
 simp only [qd,qa,B0,reduceIte,a9]
 refine jc (a0l hS7) hW (by simp only [B0,reduceIte,a9]) (fun h9 hS10=>?_)
 refine jc hS10 hW (by simp only [B0,reduceIte,a9]) (fun h11 hS12=>?_)
 simp only [jd,q2r,qe,qc,qq,qb,s5,s9,t5,qr,qn,B0,reduceIte,a9]
 refine qg (v := .agg [.int .i64 i0.Truth.Epoch,.int .i64 i0.Truth.Leader,lst cI i0.Truth.InStep]) rfl ?_
 simp only [qq,qb,s5,s9,t5,qr,qn,B0,reduceIte,a9]
 refine qg (v := .agg [.int .i64 i6.Truth.Epoch,.int .i64 i6.Truth.Leader,lst cI i6.Truth.InStep]) rfl ?_
 obtain ⟨v13,hx14,hF15⟩:=qi hF
 simp only [zi,B0,reduceIte,a9]
 refine ju rfl (ql (jo (ql qs (ql qs (ql z8 zh)))) (ql (jo (ql qs (ql qs (ql z8 zh)))) zh))
   (qjs (fun b hb=>decide_eq_true hb) k i0.Truth i6.Truth v13 hx14) ?_
 simp only [kh,qb,kz,qa,qy,B0,reduceIte,a9]
 refine qu (t:=(!v13)) (fun hc16=>?_) (fun hc16=>?_)
 ·rw [iteT hc16] at hF15
  simp only [qe,qc,qd,qa,qw,B0,reduceIte,a9]
  have he:=qh hF15
  subst he
  simp only [q9,B0,reduceIte,a9]
  exact rfl
 rw [iteF hc16] at hF15
 simp only [zf,q22,qe,qc,qq,qb,s5,s9,t5,qr,qn,B0,reduceIte,a9]
 refine qg (v:=lst qz i0.Nodes) rfl ?_
 simp only [qq,qb,s5,s9,t5,qr,qn,B0,reduceIte,a9]
 refine qg (v:=lst qz i6.Nodes) rfl ?_
 obtain ⟨v17,hx18,hF19⟩:=qi hF15
 simp only [zi,B0,reduceIte,a9]
 refine ju rfl (ql z8 (ql z8 zh)) (qnc (fun b hb=>decide_eq_true hb) k i0.Nodes i6.Nodes v17 hx18) ?_
 simp only [kh,qb,kz,qa,qy,B0,reduceIte,a9]
 refine qu (t:=(!v17)) (fun hc20=>?_) (fun hc20=>?_)
 ·rw [iteT hc20] at hF19
  simp only [qe,qc,qd,qa,qw,B0,reduceIte,a9]
  have he:=qh hF19
  subst he
  simp only [q9,B0,reduceIte,a9]
  exact rfl
 rw [iteF hc20] at hF19
 simp only [zf,qz7,qe,qc,qq,qb,s5,s9,t5,qr,qn,B0,reduceIte,a9]
 refine qg (v:=lst qm i0.Acked) rfl ?_
 simp only [qq,qb,s5,s9,t5,qr,qn,B0,reduceIte,a9]
 refine qg (v:=lst qm i6.Acked) rfl ?_
 obtain ⟨v21,hx22,hF23⟩:=qi hF19
 simp only [zi,B0,reduceIte,a9]
 refine ju rfl (ql z8 (ql z8 zh)) (qjv (fun b hb=>decide_eq_true hb) k i0.Acked i6.Acked v21 hx22) ?_
 simp only [kh,qb,kz,qa,qy,B0,reduceIte,a9]
 refine qu (t:=(!v21)) (fun hc24=>?_) (fun hc24=>?_)
 ·rw [iteT hc24] at hF23
  simp only [qe,qc,qd,qa,qw,B0,reduceIte,a9]
  have he:=qh hF23
  subst he
  simp only [q9,B0,reduceIte,a9]
  exact rfl
 rw [iteF hc24] at hF23
 simp only [zf,qe,qc,qd,qa,qw,B0,reduceIte,a9]
 have he:=qh hF23
 subst he
 simp only [q9,B0,reduceIte,a9]
 exact rfl
theorem qew {W:Nat→Bool}{h:Heap}{lo:Nat→Prop}{S0:List Obj} (hW:∀ b,
  lo b→W b=true) (k:Nat) (pv0:XV) (pc0:List Obj) (i0:List Int) (ph0:SlF cI 1 3 pv0 i0 pc0) (k_1:Int) (r:Int × (List Int))
  (hF:u5 k i0 k_1=some r) (hS:Sep h lo (pc0++(S0))) : Ret E W 21 [pv0,.int .i64 k_1] h (fun v h'=>∃ ic0,
  v = .int .i64 r.1∧SlF cI 1 3 pv0 r.2 ic0∧Sep h' lo (ic0++(S0))):=by
 refine Ret.of (fn:=x21) rfl (Run.of ?_)
 unfold u5 at hF
 have zf0:zb [pv0,.int .i64 k_1] 0=pv0:=rfl
 have zf1:zb [pv0,.int .i64 k_1] 1 = .int .i64 k_1:=rfl
 generalize zb [pv0,.int .i64 k_1]=fr0 at zf0 zf1 ⊢
 simp only [x21,qe,qc,qd,qa,q5f,B0,reduceIte,a9]
 obtain ⟨oc13,hX15,hk16⟩:=jy hF
 simp only [qzk]
 refine y8 (σ:=Int × Int × (List Int)) (fun s45=>qaz s45.1 s45.2.1 s45.2.2) (fun s fr' h'=>∃ c9,
   fr' 0=pv0∧fr' 1 = .int .i64 s.1∧fr' 5 = .int .i64 s.2.1∧SlF cI 1 3 pv0 s.2.2 c9∧Sep h' lo (c9++(S0))) hX15 ⟨pc0,zf0,zf1,rfl,ph0,hS⟩ (fun _ _ _ h=>h) ?_ ?_
 ·rintro ⟨s6,s7,s8⟩ fr25 h26 ⟨c9,f28,f29,f30,hv10,hS27⟩ oc14 hF17 hr18 Q19 hN20 hK21 hR22 hE23
  dsimp only at *
  unfold qaz at hF17
  simp only [q4i,qe,qc,f30,qd,f28,zy,qb,SlF.plen hv10,qv,k6,qa,qy,B0,reduceIte,a9]
  refine qu (t:=(decide (s7<(t6 s8:Int)))) (fun hc32=>?_) (fun hc32=>?_)
  ·rw [iteT hc32] at hF17
   obtain ⟨x33,hx34,hF35⟩:=qi hF17
   simp only [zf,q12,qe,kj,qzm,qc,f28,qd,f30,f29,ji,B0,reduceIte,a9]
   obtain ⟨b36,hb37⟩:=SlF.isrow hv10 (ka hx34)
   refine qg (SlF.ia hv10 hb37 hx34) ?_
   simp only [zp,B0,reduceIte,a9]
   refine x6 (f:=cI) (x':=s6) (o:=0) hv10 hS27 hW hb37 hx34 (fun _=>rfl) rfl rfl (nle rfl) rfl (fun c40 h38 hv41 hS39=>?_)
   have hx42:=kf (x':=s6) hx34
   simp only [qa,qc,f29,qd,qv,qb,yx,yd,f30,qo,B0,reduceIte,a9]
   have e43:=qh hF35
   exact hN20 _ _ _ e43.symm ⟨c40,f28,rfl,rfl,hv41,hS39⟩
  rw [iteF hc32] at hF17
  simp only [yf,yc,yp,B0,reduceIte,a9]
  have e44:=qh hF17
  exact hK21 _ _ _ e44.symm ⟨c9,f28,f29,f30,hv10,hS27⟩
 rintro ⟨s46,s47,s48⟩ fr51 h52 rfl ⟨c49,f54,f55,f56,hv50,hS53⟩
 dsimp only [jnO] at hk16
 dsimp only at *
 unfold qg9 at hk16
 simp only [qe,qc,f55,qd,qa,qw,B0,reduceIte,a9]
 have he:=qh hk16
 subst he
 simp only [q9,B0,reduceIte,a9]
 exact ⟨c49,by first | trivial | rfl,hv50,hS53⟩
theorem qml {W:Nat→Bool}{h:Heap}{lo:Nat→Prop}{S0:List Obj} (hW:∀ b,
  lo b→W b=true) (k:Nat) (i0:View) (d9:XV) (i4:List Obj) (i8:SlF cI 1 3 d9 i0.InStep i4) (k_1:Int) (r:Int × View)
  (hF:qcq k i0 k_1=some r) (hS:Sep h lo (i4++(S0))) : Ret E W 44 [.agg [.int .i64 i0.Epoch,.int .i64 i0.Leader,d9],
  .int .i64 k_1] h (fun v h'=>∃ ic0_2,v = .int .i64 r.1∧SlF cI 1 3 d9 r.2.InStep ic0_2∧Sep h' lo (ic0_2++(S0))):=by
 refine Ret.of (fn:=x44) rfl (Run.of ?_)
 unfold qcq at hF
 have zf0:zb [.agg [.int .i64 i0.Epoch,.int .i64 i0.Leader,d9],.int .i64 k_1] 0 = .agg [.int .i64 i0.Epoch,.int .i64 i0.Leader,d9]:=rfl
 have zf1:zb [.agg [.int .i64 i0.Epoch,.int .i64 i0.Leader,d9],.int .i64 k_1] 1 = .int .i64 k_1:=rfl
 generalize zb [.agg [.int .i64 i0.Epoch,.int .i64 i0.Leader,d9],.int .i64 k_1]=fr0 at zf0 zf1 ⊢
 simp only [x44,qe,qc,j7,zf0,B0,reduceIte,a9]
 refine jm (cs:=[.int .i64 i0.Epoch,.int .i64 i0.Leader,d9]) hS rfl rfl (qj rfl (qj rfl (qj (a0g i8) zq))) (fun b1 h2 hS3=>?_)
 simp only [qd,qa,B0,reduceIte,a9]
 refine jc hS3 hW (by simp only [B0,reduceIte,a9]) (fun h5 hS6=>?_)
 simp only [jd,q7u,qe,qc,qq,qb,s5,s9,t5,qr,qn,B0,reduceIte,a9]
 refine qg (v:=d9) rfl ?_
 obtain ⟨v7,hx8,hF9⟩:=qi hF
 simp only [zf1,qd,zi,B0,reduceIte,a9]
 refine wc rfl (qew hW k d9 i4 i0.InStep i8 k_1 v7 hx8 hS6) ?_
 rintro _ h12 ⟨c10,rfl,hv11,hS13⟩
 simp only [qd,qa,qe,qc,qw,B0,reduceIte,a9]
 have he:=qh hF9
 subst he
 simp only [q9,B0,reduceIte,a9]
 exact ⟨c10,by first | trivial | rfl,hv11,hS13⟩
theorem qh7 {W:Nat→Bool}{h:Heap}{lo:Nat→Prop}{S0:List Obj} (hW:∀ b,
  lo b→W b=true) (k:Nat) (pv0:XV) (pc0:List Obj) (i0:List Row) (ph0:SlF qm 2 92 pv0 i0 pc0) (k_1:Int) (r:Int × (List Row))
  (hF:qbc k i0 k_1=some r) (hS:Sep h lo (pc0++(S0))) : Ret E W 46 [pv0,.int .i64 k_1] h (fun v h'=>∃ ic0,
  v = .int .i64 r.1∧SlF qm 2 92 pv0 r.2 ic0∧Sep h' lo (ic0++(S0))):=by
 refine Ret.of (fn:=x46) rfl (Run.of ?_)
 unfold qbc at hF
 have zf0:zb [pv0,.int .i64 k_1] 0=pv0:=rfl
 have zf1:zb [pv0,.int .i64 k_1] 1 = .int .i64 k_1:=rfl
 generalize zb [pv0,.int .i64 k_1]=fr0 at zf0 zf1 ⊢
 simp only [x46,qe,qc,qd,qa,q6f,B0,reduceIte,a9]
 obtain ⟨oc13,hX15,hk16⟩:=jy hF
 simp only [q7x]
 refine y8 (σ:=Int × Int × (List Row)) (fun s50=>qas s50.1 s50.2.1 s50.2.2) (fun s fr' h'=>∃ c9,
   fr' 0=pv0∧fr' 1 = .int .i64 s.1∧fr' 5 = .int .i64 s.2.1∧SlF qm 2 92 pv0 s.2.2 c9∧Sep h' lo (c9++(S0))) hX15 ⟨pc0,zf0,zf1,rfl,ph0,
   hS⟩ (fun _ _ _ h=>h) ?_ ?_
 ·rintro ⟨s6,s7,s8⟩ fr25 h26 ⟨c9,f28,f29,f30,hv10,hS27⟩ oc14 hF17 hr18 Q19 hN20 hK21 hR22 hE23
  dsimp only at *
  unfold qas at hF17
  simp only [q3r,qe,qc,f30,qd,f28,zy,qb,SlF.plen hv10,qv,k6,qa,qy,B0,reduceIte,a9]
  refine qu (t:=(decide (s7<(t6 s8:Int)))) (fun hc32=>?_) (fun hc32=>?_)
  ·rw [iteT hc32] at hF17
   obtain ⟨x33,hx34,hF35⟩:=qi hF17
   simp only [zf,q8i,qe,kj,q50,qc,f28,qd,f30,f29,ji,B0,reduceIte,a9]
   obtain ⟨b36,hb37⟩:=SlF.isrow hv10 (ka hx34)
   refine qg (SlF.ia hv10 hb37 hx34) ?_
   simp only [qq,qb,s5,s9,t5,zd,zp,B0,reduceIte,a9]
   refine x6 (f:=qm) (x':=(Row.mk s6 x33.Value)) (o:=0) hv10 hS27 hW hb37 hx34 (fun _=>rfl) rfl rfl (nle rfl) rfl (fun c40 h38 hv41 hS39=>?_)
   have hx42:=kf (x':=(Row.mk s6 x33.Value)) hx34
   simp only [qa,q3k,qe,qc,f29,qd,qv,qb,yx,q4u,f28,f30,ji,B0,reduceIte,a9]
   refine qg (SlF.ia hv41 hb37 hx42) ?_
   simp only [qq,qb,s5,s9,t5,zd,zp,B0,reduceIte,a9]
   refine x6 (f:=qm) (x':=(Row.mk s6 (a0a .i64 (s6+1)))) (o:=1) hv41 hS39 hW hb37 hx42 (fun _=>rfl) rfl rfl (nle rfl) rfl
     (fun c45 h43 hv46 hS44=>?_)
   rw [List.set_set] at hv46
   have hx47:=kf (x':=(Row.mk s6 (a0a .i64 (s6+1)))) hx34
   simp only [qa,qc,qd,qv,qb,yx,yd,f30,qo,B0,reduceIte,a9]
   have e48:=qh hF35
   exact hN20 _ _ _ e48.symm ⟨c45,f28,rfl,rfl,hv46,hS44⟩
  rw [iteF hc32] at hF17
  simp only [yf,yc,yp,B0,reduceIte,a9]
  have e49:=qh hF17
  exact hK21 _ _ _ e49.symm ⟨c9,f28,f29,f30,hv10,hS27⟩
 rintro ⟨s51,s52,s53⟩ fr56 h57 rfl ⟨c54,f59,f60,f61,hv55,hS58⟩
 dsimp only [jnO] at hk16
 dsimp only at *
 unfold qhj at hk16
 simp only [qe,qc,f60,qd,qa,qw,B0,reduceIte,a9]
 have he:=qh hk16
 subst he
 simp only [q9,B0,reduceIte,a9]
 exact ⟨c54,by first | trivial | rfl,hv55,hS58⟩
theorem qlk {W:Nat→Bool}{h:Heap}{lo:Nat→Prop}{S0:List Obj} (hW:∀ b,
  lo b→W b=true) (k:Nat) (pv0:XV) (pc0:List Obj) (i0:List Node) (ph0:SlN Node.R 6 68 pv0 i0 pc0) (k_1:Int) (r:Int × (List Node))
  (hF:qb4 k i0 k_1=some r) (hS:Sep h lo (pc0++(S0))) : Ret E W 45 [pv0,.int .i64 k_1] h (fun v h'=>∃ ic0,
  v = .int .i64 r.1∧SlN Node.R 6 68 pv0 r.2 ic0∧Sep h' lo (ic0++(S0))):=by
 refine Ret.of (fn:=x45) rfl (Run.of ?_)
 unfold qb4 at hF
 have zf0:zb [pv0,.int .i64 k_1] 0=pv0:=rfl
 have zf1:zb [pv0,.int .i64 k_1] 1 = .int .i64 k_1:=rfl
 generalize zb [pv0,.int .i64 k_1]=fr0 at zf0 zf1 ⊢
 simp only [x45,qe,qc,qd,qa,qwm,B0,reduceIte,a9]
 obtain ⟨oc13,hX15,hk16⟩:=jy hF
 simp only [qwf]
 refine y8 (σ:=Int × Int × (List Node)) (fun s97=>qae k s97.1 s97.2.1 s97.2.2) (fun s fr' h'=>∃ c9,
   fr' 0=pv0∧fr' 1 = .int .i64 s.1∧fr' 5 = .int .i64 s.2.1∧SlN Node.R 6 68 pv0 s.2.2 c9∧Sep h' lo (c9++(S0))) hX15 ⟨pc0,zf0,zf1,rfl,ph0,
   hS⟩ (fun _ _ _ h=>h) ?_ ?_
 ·rintro ⟨s6,s7,s8⟩ fr25 h26 ⟨c9,f28,f29,f30,hv10,hS27⟩ oc14 hF17 hr18 Q19 hN20 hK21 hR22 hE23
  dsimp only at *
  unfold qae at hF17
  simp only [qve,qe,qc,f30,qd,f28,zy,qb,SlN.len hv10,qv,k6,qa,qy,B0,reduceIte,a9]
  refine qu (t:=(decide (s7<(t6 s8:Int)))) (fun hc32=>?_) (fun hc32=>?_)
  ·rw [iteT hc32] at hF17
   obtain ⟨x33,hx34,hF35⟩:=qi hF17
   simp only [zf,q0u,qe,kj,q7b,qc,f28,qd,f30,f29,ji,B0,reduceIte,a9]
   obtain ⟨b36,hb37⟩:=SlN.isrow hv10 (ka hx34)
   refine qg (SlN.ia hv10 hb37 hx34) ?_
   obtain ⟨c40,cs41,os42,hv43,hR44,hS45⟩:=SlG.opn (SlN.toG hv10 hb37 Node.RO.len) hx34 z7 Node.RO.len hS27
   obtain ⟨v47,c48,v51,c52,v55,c56,hv49,hv53,hv57,rfl,rfl⟩:=hR44
   have hS46:=Sep.no3 hS45
   simp only [qq,qb,s5,s9,t5,zd,zp,B0,reduceIte,a9]
   refine ws (n:=6) (us:=[.int .i64 s6]) (cs:=[.int .i64 x33.View.Epoch,.int .i64 x33.View.Leader,v47,v51,v55,
     .int .i64 x33.Told]) (o:=0) (cs':=[.int .i64 s6,.int .i64 x33.View.Leader,v47,v51,v55,
     .int .i64 x33.Told]) rfl hv43 rfl hx34 hS46 hW rfl rfl (nle rfl) rfl (fun c59 h38 hv60 hS39=>?_)
   simp only [qa,q2q,qe,qc,f29,qd,qv,qb,yx,qzy,f28,f30,ji,B0,reduceIte,a9]
   refine qg (SlG.ia hv60 hx34) ?_
   simp only [qq,qb,s5,s9,t5,zd,zp,B0,reduceIte,a9]
   refine ws (n:=6) (us:=[.int .i64 (a0a .i64 (s6+1))]) (cs:=[.int .i64 s6,.int .i64 x33.View.Leader,v47,v51,v55,
     .int .i64 x33.Told]) (o:=1) (cs':=[.int .i64 s6,.int .i64 (a0a .i64 (s6+1)),v47,v51,v55,
     .int .i64 x33.Told]) rfl hv60 rfl hx34 hS39 hW rfl rfl (nle rfl) rfl (fun c63 h61 hv64 hS62=>?_)
   simp only [qa,q28,qe,qc,qd,qv,qb,yx,q2z,f28,f30,ji,B0,reduceIte,a9]
   refine qg (SlG.ia hv64 hx34) ?_
   simp only [qq,qb,s5,s9,t5,zd,qn,B0,reduceIte,a9]
   refine qg (v:=v47) ((SlG.ld (o:=2) hv64 rfl hx34 hS62 (nle rfl)).trans rfl) ?_
   obtain ⟨v65,hx66,hF67⟩:=qi hF35
   simp only [qd,zi,B0,reduceIte,a9]
   refine wc rfl (qew hW k v47 c48 x33.View.InStep hv49 (a0a .i64 ((a0a .i64 (s6+1))+1)) v65 hx66 (a0l hS62)) ?_
   rintro _ h70 ⟨c68,rfl,hv69,hS71⟩
   simp only [qd,qa,q68,qe,qc,f28,f30,ji,B0,reduceIte,a9]
   refine qg (SlG.ia hv64 hx34) ?_
   simp only [qq,qb,s5,s9,t5,zd,qn,B0,reduceIte,a9]
   refine qg (v:=v51) ((SlG.ld (o:=3) hv64 rfl hx34 (a0l hS71) (nle rfl)).trans rfl) ?_
   obtain ⟨v72,hx73,hF74⟩:=qi hF67
   simp only [qd,zi,B0,reduceIte,a9]
   refine wc rfl (qh7 hW k v51 c52 x33.Log hv53 v65.1 v72 hx73 (a0k hS71)) ?_
   rintro _ h77 ⟨c75,rfl,hv76,hS78⟩
   simp only [qd,qa,q8e,qe,qc,f28,f30,ji,B0,reduceIte,a9]
   refine qg (SlG.ia hv64 hx34) ?_
   simp only [qq,qb,s5,s9,t5,zd,qn,B0,reduceIte,a9]
   refine qg (v:=v55) ((SlG.ld (o:=4) hv64 rfl hx34 (a0k hS78) (nle rfl)).trans rfl) ?_
   obtain ⟨v79,hx80,hF81⟩:=qi hF74
   simp only [qd,zi,B0,reduceIte,a9]
   refine wc rfl (qew hW k v55 c56 x33.Known hv57 v72.1 v79 hx80 (a0e hS78)) ?_
   rintro _ h84 ⟨c82,rfl,hv83,hS85⟩
   simp only [qd,qa,q4w,qe,qc,f28,f30,ji,B0,reduceIte,a9]
   refine qg (SlG.ia hv64 hx34) ?_
   simp only [qq,qb,s5,s9,t5,zd,zp,B0,reduceIte,a9]
   refine ws (n:=6) (us:=[.int .i64 v79.1]) (cs:=[.int .i64 s6,.int .i64 (a0a .i64 (s6+1)),v47,v51,v55,
     .int .i64 x33.Told]) (o:=5) (cs':=[.int .i64 s6,.int .i64 (a0a .i64 (s6+1)),v47,v51,v55,
     .int .i64 v79.1]) rfl hv64 rfl hx34 (a0e hS85) hW rfl rfl (nle rfl) rfl (fun c88 h86 hv89 hS87=>?_)
   simp only [qa,qc,qd,qv,qb,yx,yd,f30,qo,B0,reduceIte,a9]
   obtain ⟨c90,hv91,hS92⟩:=SlG.cls (e':=(Node.mk (View.mk s6 (a0a .i64 (s6+1)) v65.2) v72.2 v79.2 v79.1)) (c:=c88) (os:=c68++(c75 ++
     (c82))) hv89 rfl hx34 z7 (Node.RI (x:=(Node.mk (View.mk s6 (a0a .i64 (s6+1)) v65.2) v72.2 v79.2 v79.1)) hv69 hv76 hv83) (Sep.ni3 (c1:=c68)
     (c2:=c75) (c3:=c82) (a0e (a0e (a0k (a0l hS87)))))
   have hx93:=kf (x':=(Node.mk (View.mk s6 (a0a .i64 (s6+1)) v65.2) v72.2 v79.2 v79.1)) hx34
   have hv94:=SlG.toN hv91
   have e95:=qh hF81
   exact hN20 _ _ _ e95.symm ⟨c90,f28,rfl,rfl,hv94,hS92⟩
  rw [iteF hc32] at hF17
  simp only [yf,yc,yp,B0,reduceIte,a9]
  have e96:=qh hF17
  exact hK21 _ _ _ e96.symm ⟨c9,f28,f29,f30,hv10,hS27⟩
 rintro ⟨s98,s99,s100⟩ fr103 h104 rfl ⟨c101,f106,f107,f108,hv102,hS105⟩
 dsimp only [jnO] at hk16
 dsimp only at *
 unfold qgn at hk16
 simp only [qe,qc,f107,qd,qa,qw,B0,reduceIte,a9]
 have he:=qh hk16
 subst he
 simp only [q9,B0,reduceIte,a9]
 exact ⟨c101,by first | trivial | rfl,hv102,hS105⟩
theorem qj7 {W:Nat→Bool}{h:Heap}{lo:Nat→Prop}{S0:List Obj} (hW:∀ b,
  lo b→W b=true) (k:Nat) (i0:Cluster) (d9:XV) (i4:List Obj) (i8:SlF cI 1 3 d9 i0.Truth.InStep i4) (e8:XV) (l7:List Obj)
  (l6:SlN Node.R 6 68 e8 i0.Nodes l7) (f4:XV) (i5:List Obj) (l5:SlF qm 2 92 f4 i0.Acked i5) (k_1:Int) (r:Int × Cluster)
  (hF:qa1 k i0 k_1=some r) (hS:Sep h lo (i4++(l7++(i5++(S0))))) : Ret E W 12 [.agg [.int .i64 i0.Truth.Epoch,.int .i64 i0.Truth.Leader,
  d9,e8,f4],.int .i64 k_1] h (fun v h'=>∃ ic0_2 ic0_3 ic0_4,
  v = .int .i64 r.1∧SlF cI 1 3 d9 r.2.Truth.InStep ic0_2∧SlN Node.R 6 68 e8 r.2.Nodes ic0_3∧SlF qm 2 92 f4 r.2.Acked ic0_4∧Sep h' lo (ic0_2++(ic0_3 ++
  (ic0_4++(S0))))):=by
 refine Ret.of (fn:=x12) rfl (Run.of ?_)
 unfold qa1 at hF
 have zf0:zb [.agg [.int .i64 i0.Truth.Epoch,.int .i64 i0.Truth.Leader,d9,e8,f4],.int .i64 k_1] 0 = .agg [.int .i64 i0.Truth.Epoch,
   .int .i64 i0.Truth.Leader,d9,e8,f4]:=rfl
 have zf1:zb [.agg [.int .i64 i0.Truth.Epoch,.int .i64 i0.Truth.Leader,d9,e8,f4],.int .i64 k_1] 1 = .int .i64 k_1:=rfl
 generalize zb [.agg [.int .i64 i0.Truth.Epoch,.int .i64 i0.Truth.Leader,d9,e8,f4],.int .i64 k_1]=fr0 at zf0 zf1 ⊢
 simp only [x12,qe,qc,j7,zf0,B0,reduceIte,a9]
 refine jm (cs:=[.int .i64 i0.Truth.Epoch,.int .i64 i0.Truth.Leader,d9,e8,
   f4]) hS rfl rfl (qj rfl (qj rfl (qj (a0g i8) (qj (a10 l6) (qj (a0g l5) zq))))) (fun b1 h2 hS3=>?_)
 simp only [qd,qa,B0,reduceIte,a9]
 refine jc hS3 hW (by simp only [B0,reduceIte,a9]) (fun h5 hS6=>?_)
 simp only [jd,q77,qe,qc,qq,qb,s5,s9,t5,qr,qn,B0,reduceIte,a9]
 refine qg (v := .agg [.int .i64 i0.Truth.Epoch,.int .i64 i0.Truth.Leader,d9]) rfl ?_
 obtain ⟨v7,hx8,hF9⟩:=qi hF
 simp only [zf1,qd,zi,B0,reduceIte,a9]
 refine wc rfl (qml hW k i0.Truth d9 i4 i8 k_1 v7 hx8 hS6) ?_
 rintro _ h12 ⟨c10,rfl,hv11,hS13⟩
 simp only [qd,qa,q3j,qe,qc,qq,qb,s5,s9,t5,qr,qn,B0,reduceIte,a9]
 refine qg (v:=e8) rfl ?_
 obtain ⟨v14,hx15,hF16⟩:=qi hF9
 simp only [qd,zi,B0,reduceIte,a9]
 refine wc rfl (qlk hW k e8 l7 i0.Nodes l6 v7.1 v14 hx15 (a0l hS13)) ?_
 rintro _ h19 ⟨c17,rfl,hv18,hS20⟩
 simp only [qd,qa,q5r,qe,qc,qq,qb,s5,s9,t5,qr,qn,B0,reduceIte,a9]
 refine qg (v:=f4) rfl ?_
 obtain ⟨v21,hx22,hF23⟩:=qi hF16
 simp only [qd,zi,B0,reduceIte,a9]
 refine wc rfl (qh7 hW k f4 i5 i0.Acked l5 v14.1 v21 hx22 (a0k hS20)) ?_
 rintro _ h26 ⟨c24,rfl,hv25,hS27⟩
 simp only [qd,qa,qe,qc,qw,B0,reduceIte,a9]
 have he:=qh hF23
 subst he
 simp only [q9,B0,reduceIte,a9]
 exact ⟨c10,c17,c24,by first | trivial | rfl,hv11,hv18,hv25,(a0k (a0l hS27))⟩
end Go.Proofs.Ytohofoampalhoaa.X
namespace Go.Proofs.Ytohofoampalhoaa.X
open Go
theorem qe4 {W:Nat→Bool}{h:Heap} (hW:∀ b,
  (geL h.length) b→W b=true) (k:Nat) (i0:List Int) (k_1:Int) (r:Int) (hF:u4 k i0 k_1=some r) : Ret E W 22 [lst cI i0,
  .int .i64 k_1] h (fun v h'=>cut h.length h' E.sz false 9 v=some (.int .i64 r)):=by
 refine Ret.of (fn:=x22) rfl (Run.of ?_)
 unfold u4 at hF
 have zf0:zb [lst cI i0,.int .i64 k_1] 0=lst cI i0:=rfl
 have zf1:zb [lst cI i0,.int .i64 k_1] 1 = .int .i64 k_1:=rfl
 generalize zb [lst cI i0,.int .i64 k_1]=fr0 at zf0 zf1 ⊢
 have hS:Sep h (geL h.length) []:=a1q h
 simp only [x22,qe,qc,qd,qa,q5b,B0,reduceIte,a9]
 obtain ⟨oc7,hX9,hk10⟩:=jy hF
 simp only [q2c]
 refine y8 (σ:=Int × Int) (fun s36=>qaq i0 s36.1 s36.2) (fun s fr' h'=>fr' 0=lst cI i0∧fr' 1 = .int .i64 s.1∧fr' 5 = .int .i64 s.2∧Sep h'
   (geL h.length) ([])) hX9 ⟨zf0,zf1,rfl,hS⟩ (fun _ _ _ h=>h) ?_ ?_
 ·rintro ⟨s3,s4⟩ fr19 h20 ⟨f22,f23,f24,hS21⟩ oc8 hF11 hr12 Q13 hN14 hK15 hR16 hE17
  dsimp only at *
  unfold qaq at hF11
  simp only [q63,qe,qc,f24,qd,f22,zy,qb,je,qv,k6,qa,qy,B0,reduceIte,a9]
  refine qu (t:=(decide (s4<(t6 i0:Int)))) (fun hc26=>?_) (fun hc26=>?_)
  ·rw [iteT hc26] at hF11
   obtain ⟨x27,hx28,hF29⟩:=qi hF11
   simp only [zf,q3p,qe,kj,q6e,qc,f22,qd,f24,ji,B0,reduceIte,a9]
   refine qg (v := .ref (cI x27) 0) (kw hx28 rfl) ?_
   simp only [qn,B0,reduceIte,a9]
   refine qg (v := .int .i64 x27) rfl ?_
   simp only [f23,qd,qv,qb,ya,qa,qy,B0,reduceIte,a9]
   refine qu (t:=(decide (x27≠s3))) (fun hc30=>?_) (fun hc30=>?_)
   ·rw [iteT hc30] at hF29
    simp only [qe,qc,qd,qa,qw,B0,reduceIte,a9]
    have e31:=qh hF29
    subst e31
    have ho32:=hr12 _ rfl
    have hk33:=hk10
    rw [ho32] at hk33
    dsimp only [jnO] at hk33
    apply hR16
    have he:=qh hk33
    subst he
    simp only [q9,B0,reduceIte,a9]
    exact rfl
   rw [iteF hc30] at hF29
   simp only [zf,qc,f23,qd,qv,qb,yx,qa,yd,f24,qo,B0,reduceIte,a9]
   have e34:=qh hF29
   exact hN14 _ _ _ e34.symm ⟨f22,rfl,rfl,hS21⟩
  rw [iteF hc26] at hF11
  simp only [yf,yc,yp,B0,reduceIte,a9]
  have e35:=qh hF11
  exact hK15 _ _ _ e35.symm ⟨f22,f23,f24,hS21⟩
 rintro ⟨s37,s38⟩ fr39 h40 rfl ⟨f42,f43,f44,hS41⟩
 dsimp only [jnO] at hk10
 dsimp only at *
 unfold qho at hk10
 simp only [qe,qc,f43,qd,qa,qw,B0,reduceIte,a9]
 have he:=qh hk10
 subst he
 simp only [q9,B0,reduceIte,a9]
 exact rfl
theorem qmy {W:Nat→Bool}{h:Heap} (hW:∀ b,
  (geL h.length) b→W b=true) (k:Nat) (i0:View) (k_1:Int) (r:Int) (hF:qcn k i0 k_1=some r) : Ret E W 47 [.agg [.int .i64 i0.Epoch,
  .int .i64 i0.Leader,lst cI i0.InStep],.int .i64 k_1] h (fun v h'=>cut h.length h' E.sz false 9 v=some (.int .i64 r)):=by
 refine Ret.of (fn:=x47) rfl (Run.of ?_)
 unfold qcn at hF
 have zf0:zb [.agg [.int .i64 i0.Epoch,.int .i64 i0.Leader,lst cI i0.InStep],.int .i64 k_1] 0 = .agg [.int .i64 i0.Epoch,.int .i64 i0.Leader,
   lst cI i0.InStep]:=rfl
 have zf1:zb [.agg [.int .i64 i0.Epoch,.int .i64 i0.Leader,lst cI i0.InStep],.int .i64 k_1] 1 = .int .i64 k_1:=rfl
 generalize zb [.agg [.int .i64 i0.Epoch,.int .i64 i0.Leader,lst cI i0.InStep],.int .i64 k_1]=fr0 at zf0 zf1 ⊢
 have hS:Sep h (geL h.length) []:=a1q h
 simp only [x47,qe,qc,j7,zf0,B0,reduceIte,a9]
 refine jm (cs:=[.int .i64 i0.Epoch,.int .i64 i0.Leader,lst cI i0.InStep]) hS rfl rfl rfl (fun b1 h2 hS3=>?_)
 simp only [qd,qa,B0,reduceIte,a9]
 refine jc hS3 hW (by simp only [B0,reduceIte,a9]) (fun h5 hS6=>?_)
 simp only [jd,qzr,qe,qc,qq,qb,s5,s9,t5,qr,qn,B0,reduceIte,a9]
 refine qg (v:=lst cI i0.InStep) rfl ?_
 obtain ⟨v7,hx8,hF9⟩:=qi hF
 simp only [zf1,qd,zi,B0,reduceIte,a9]
 refine ju rfl (ql z8 (ql qs zh)) (qe4 (fun b hb=>decide_eq_true hb) k i0.InStep k_1 v7 hx8) ?_
 simp only [qd,qa,q6q,qe,qc,qv,qb,k6,qy,B0,reduceIte,a9]
 refine qu (t:=(decide (v7<0))) (fun hc10=>?_) (fun hc10=>?_)
 ·rw [iteT hc10] at hF9
  simp only [qe,qc,qd,qa,qw,B0,reduceIte,a9]
  have he:=qh hF9
  subst he
  simp only [q9,B0,reduceIte,a9]
  exact rfl
 rw [iteF hc10] at hF9
 simp only [zf,qe,qc,qd,qa,qw,B0,reduceIte,a9]
 have he:=qh hF9
 subst he
 simp only [q9,B0,reduceIte,a9]
 exact rfl
theorem qh5 {W:Nat→Bool}{h:Heap} (hW:∀ b,
  (geL h.length) b→W b=true) (k:Nat) (i0:List Row) (k_1:Int) (r:Int) (hF:qbe k i0 k_1=some r) : Ret E W 49 [lst qm i0,
  .int .i64 k_1] h (fun v h'=>cut h.length h' E.sz false 9 v=some (.int .i64 r)):=by
 refine Ret.of (fn:=x49) rfl (Run.of ?_)
 unfold qbe at hF
 have zf0:zb [lst qm i0,.int .i64 k_1] 0=lst qm i0:=rfl
 have zf1:zb [lst qm i0,.int .i64 k_1] 1 = .int .i64 k_1:=rfl
 generalize zb [lst qm i0,.int .i64 k_1]=fr0 at zf0 zf1 ⊢
 have hS:Sep h (geL h.length) []:=a1q h
 simp only [x49,qe,qc,qd,qa,q1x,B0,reduceIte,a9]
 obtain ⟨oc7,hX9,hk10⟩:=jy hF
 simp only [q1f]
 refine y8 (σ:=Int × Int) (fun s43=>qat i0 s43.1 s43.2)
   (fun s fr' h'=>fr' 0=lst qm i0∧fr' 1 = .int .i64 s.1∧fr' 5 = .int .i64 s.2∧Sep h' (geL h.length) ([])) hX9 ⟨zf0,zf1,rfl,hS⟩ (fun _ _ _ h=>h) ?_ ?_
 ·rintro ⟨s3,s4⟩ fr19 h20 ⟨f22,f23,f24,hS21⟩ oc8 hF11 hr12 Q13 hN14 hK15 hR16 hE17
  dsimp only at *
  unfold qat at hF11
  simp only [q7m,qe,qc,f24,qd,f22,zy,qb,je,qv,k6,qa,qy,B0,reduceIte,a9]
  refine qu (t:=(decide (s4<(t6 i0:Int)))) (fun hc26=>?_) (fun hc26=>?_)
  ·rw [iteT hc26] at hF11
   obtain ⟨x27,hx28,hF29⟩:=qi hF11
   simp only [zf,q4z,qe,kj,q74,qc,f22,qd,f24,ji,B0,reduceIte,a9]
   refine qg (v := .ref (qm x27) 0) (kw hx28 rfl) ?_
   simp only [qq,qb,s5,s9,t5,qr,qn,B0,reduceIte,a9]
   refine qg (v := .int .i64 x27.Epoch) rfl ?_
   simp only [f23,qd,qv,qb,ya,qa,qy,B0,reduceIte,a9]
   refine qu (t:=(decide (x27.Epoch≠s3))) (fun hc30=>?_) (fun hc30=>?_)
   ·rw [iteT hc30] at hF29
    simp only [qe,qc,qd,qa,qw,B0,reduceIte,a9]
    have e31:=qh hF29
    subst e31
    have ho32:=hr12 _ rfl
    have hk33:=hk10
    rw [ho32] at hk33
    dsimp only [jnO] at hk33
    apply hR16
    have he:=qh hk33
    subst he
    simp only [q9,B0,reduceIte,a9]
    exact rfl
   rw [iteF hc30] at hF29
   obtain ⟨x34,hx35,hF36⟩:=qi hF29
   simp only [zf,q0c,qe,qc,f23,qd,qv,qb,yx,qa,q3f,f22,f24,ji,B0,reduceIte,a9]
   refine qg (v := .ref (qm x34) 0) (kw hx35 rfl) ?_
   simp only [qq,qb,s5,s9,t5,qr,qn,B0,reduceIte,a9]
   refine qg (v := .int .i64 x34.Value) rfl ?_
   simp only [qd,qv,qb,ya,qa,qy,B0,reduceIte,a9]
   refine qu (t:=(decide (x34.Value≠(a0a .i64 (s3+1))))) (fun hc37=>?_) (fun hc37=>?_)
   ·rw [iteT hc37] at hF36
    simp only [qe,qc,qd,qa,qw,B0,reduceIte,a9]
    have e38:=qh hF36
    subst e38
    have ho39:=hr12 _ rfl
    have hk40:=hk10
    rw [ho39] at hk40
    dsimp only [jnO] at hk40
    apply hR16
    have he:=qh hk40
    subst he
    simp only [q9,B0,reduceIte,a9]
    exact rfl
   rw [iteF hc37] at hF36
   simp only [zf,qc,qd,qv,qb,yx,qa,yd,f24,qo,B0,reduceIte,a9]
   have e41:=qh hF36
   exact hN14 _ _ _ e41.symm ⟨f22,rfl,rfl,hS21⟩
  rw [iteF hc26] at hF11
  simp only [yf,yc,yp,B0,reduceIte,a9]
  have e42:=qh hF11
  exact hK15 _ _ _ e42.symm ⟨f22,f23,f24,hS21⟩
 rintro ⟨s44,s45⟩ fr46 h47 rfl ⟨f49,f50,f51,hS48⟩
 dsimp only [jnO] at hk10
 dsimp only at *
 unfold qht at hk10
 simp only [qe,qc,f50,qd,qa,qw,B0,reduceIte,a9]
 have he:=qh hk10
 subst he
 simp only [q9,B0,reduceIte,a9]
 exact rfl
theorem ql4 {W:Nat→Bool}{h:Heap} (hW:∀ b,
  (geL h.length) b→W b=true) (k:Nat) (f0:List Node) (d8:Int) (r:Int) (hF:qca k f0 d8=some r) : Ret E W 48 [lst qz f0,
  .int .i64 d8] h (fun v h'=>cut h.length h' E.sz false 9 v=some (.int .i64 r)):=by
 refine Ret.of (fn:=x48) rfl (Run.of ?_)
 unfold qca at hF
 have zf0:zb [lst qz f0,.int .i64 d8] 0=lst qz f0:=rfl
 have zf1:zb [lst qz f0,.int .i64 d8] 1 = .int .i64 d8:=rfl
 generalize zb [lst qz f0,.int .i64 d8]=fr0 at zf0 zf1 ⊢
 have hS:Sep h (geL h.length) []:=a1q h
 simp only [x48,qe,qc,qd,qa,qv5,B0,reduceIte,a9]
 obtain ⟨oc7,hX9,hk10⟩:=jy hF
 simp only [qsy]
 refine y8 (σ:=Int × Int) (fun s80=>qac k f0 s80.1 s80.2)
   (fun s fr' h'=>fr' 0=lst qz f0∧fr' 1 = .int .i64 s.1∧fr' 5 = .int .i64 s.2∧Sep h' (geL h.length) ([])) hX9 ⟨zf0,zf1,rfl,hS⟩ (fun _ _ _ h=>h) ?_ ?_
 ·rintro ⟨s3,s4⟩ fr19 h20 ⟨f22,f23,f24,hS21⟩ oc8 hF11 hr12 Q13 hN14 hK15 hR16 hE17
  dsimp only at *
  unfold qac at hF11
  simp only [qu3,qe,qc,f24,qd,f22,zy,qb,je,qv,k6,qa,qy,B0,reduceIte,a9]
  refine qu (t:=(decide (s4<(t6 f0:Int)))) (fun hc26=>?_) (fun hc26=>?_)
  ·rw [iteT hc26] at hF11
   obtain ⟨x27,hx28,hF29⟩:=qi hF11
   simp only [zf,qtq,qe,kj,qtz,qc,f22,qd,f24,ji,B0,reduceIte,a9]
   refine qg (v := .ref (qz x27) 0) (kw hx28 rfl) ?_
   simp only [qq,qb,s5,s9,t5,qr,qn,B0,reduceIte,a9]
   refine qg (v := .int .i64 x27.View.Epoch) rfl ?_
   simp only [f23,qd,qv,qb,ya,qa,qy,B0,reduceIte,a9]
   refine qu (t:=(decide (x27.View.Epoch≠s3))) (fun hc30=>?_) (fun hc30=>?_)
   ·rw [iteT hc30] at hF29
    simp only [qe,qc,qd,qa,qw,B0,reduceIte,a9]
    have e31:=qh hF29
    subst e31
    have ho32:=hr12 _ rfl
    have hk33:=hk10
    rw [ho32] at hk33
    dsimp only [jnO] at hk33
    apply hR16
    have he:=qh hk33
    subst he
    simp only [q9,B0,reduceIte,a9]
    exact rfl
   rw [iteF hc30] at hF29
   obtain ⟨x34,hx35,hF36⟩:=qi hF29
   simp only [zf,qte,qe,qc,f23,qd,qv,qb,yx,qa,q40,f22,f24,ji,B0,reduceIte,a9]
   refine qg (v := .ref (qz x34) 0) (kw hx35 rfl) ?_
   simp only [qq,qb,s5,s9,t5,qr,qn,B0,reduceIte,a9]
   refine qg (v := .int .i64 x34.View.Leader) rfl ?_
   simp only [qd,qv,qb,ya,qa,qy,B0,reduceIte,a9]
   refine qu (t:=(decide (x34.View.Leader≠(a0a .i64 (s3+1))))) (fun hc37=>?_) (fun hc37=>?_)
   ·rw [iteT hc37] at hF36
    simp only [qe,qc,qd,qa,qw,B0,reduceIte,a9]
    have e38:=qh hF36
    subst e38
    have ho39:=hr12 _ rfl
    have hk40:=hk10
    rw [ho39] at hk40
    dsimp only [jnO] at hk40
    apply hR16
    have he:=qh hk40
    subst he
    simp only [q9,B0,reduceIte,a9]
    exact rfl
   rw [iteF hc37] at hF36
   obtain ⟨x41,hx42,hF43⟩:=qi hF36
   simp only [zf,q1n,qe,qc,qd,qv,qb,yx,qa,q5t,f22,f24,ji,B0,reduceIte,a9]
   refine qg (v := .ref (qz x41) 0) (kw hx42 rfl) ?_
   simp only [qq,qb,s5,s9,t5,qr,qn,B0,reduceIte,a9]
   refine qg (v:=lst cI x41.View.InStep) rfl ?_
   obtain ⟨v44,hx45,hF46⟩:=qi hF43
   simp only [qd,zi,B0,reduceIte,a9]
   refine ju rfl (ql z8 (ql qs zh)) (qe4 (fun b hb=>decide_eq_true hb) k x41.View.InStep (a0a .i64 ((a0a .i64
     (s3+1))+1)) v44 hx45) ?_
   simp only [qd,qa,q8s,qe,qc,qv,qb,k6,qy,B0,reduceIte,a9]
   refine qu (t:=(decide (v44<0))) (fun hc47=>?_) (fun hc47=>?_)
   ·rw [iteT hc47] at hF46
    simp only [qe,qc,qd,qa,qw,B0,reduceIte,a9]
    have e48:=qh hF46
    subst e48
    have ho49:=hr12 _ rfl
    have hk50:=hk10
    rw [ho49] at hk50
    dsimp only [jnO] at hk50
    apply hR16
    have he:=qh hk50
    subst he
    simp only [q9,B0,reduceIte,a9]
    exact rfl
   rw [iteF hc47] at hF46
   obtain ⟨x51,hx52,hF53⟩:=qi hF46
   simp only [zf,q2w,qe,qc,f22,qd,f24,ji,B0,reduceIte,a9]
   refine qg (v := .ref (qz x51) 0) (kw hx52 rfl) ?_
   simp only [qq,qb,s5,s9,t5,qr,qn,B0,reduceIte,a9]
   refine qg (v:=lst qm x51.Log) rfl ?_
   obtain ⟨v54,hx55,hF56⟩:=qi hF53
   simp only [qd,zi,B0,reduceIte,a9]
   refine ju rfl (ql z8 (ql qs zh)) (qh5 (fun b hb=>decide_eq_true hb) k x51.Log v44 v54 hx55) ?_
   simp only [qd,qa,q7i,qe,qc,qv,qb,k6,qy,B0,reduceIte,a9]
   refine qu (t:=(decide (v54<0))) (fun hc57=>?_) (fun hc57=>?_)
   ·rw [iteT hc57] at hF56
    simp only [qe,qc,qd,qa,qw,B0,reduceIte,a9]
    have e58:=qh hF56
    subst e58
    have ho59:=hr12 _ rfl
    have hk60:=hk10
    rw [ho59] at hk60
    dsimp only [jnO] at hk60
    apply hR16
    have he:=qh hk60
    subst he
    simp only [q9,B0,reduceIte,a9]
    exact rfl
   rw [iteF hc57] at hF56
   obtain ⟨x61,hx62,hF63⟩:=qi hF56
   simp only [zf,q6i,qe,qc,f22,qd,f24,ji,B0,reduceIte,a9]
   refine qg (v := .ref (qz x61) 0) (kw hx62 rfl) ?_
   simp only [qq,qb,s5,s9,t5,qr,qn,B0,reduceIte,a9]
   refine qg (v:=lst cI x61.Known) rfl ?_
   obtain ⟨v64,hx65,hF66⟩:=qi hF63
   simp only [qd,zi,B0,reduceIte,a9]
   refine ju rfl (ql z8 (ql qs zh)) (qe4 (fun b hb=>decide_eq_true hb) k x61.Known v54 v64 hx65) ?_
   simp only [qd,qa,q1s,qe,qc,qv,qb,k6,qy,B0,reduceIte,a9]
   refine qu (t:=(decide (v64<0))) (fun hc67=>?_) (fun hc67=>?_)
   ·rw [iteT hc67] at hF66
    simp only [qe,qc,qd,qa,qw,B0,reduceIte,a9]
    have e68:=qh hF66
    subst e68
    have ho69:=hr12 _ rfl
    have hk70:=hk10
    rw [ho69] at hk70
    dsimp only [jnO] at hk70
    apply hR16
    have he:=qh hk70
    subst he
    simp only [q9,B0,reduceIte,a9]
    exact rfl
   rw [iteF hc67] at hF66
   obtain ⟨x71,hx72,hF73⟩:=qi hF66
   simp only [zf,q0k,qe,qc,f22,qd,f24,ji,B0,reduceIte,a9]
   refine qg (v := .ref (qz x71) 0) (kw hx72 rfl) ?_
   simp only [qq,qb,s5,s9,t5,qr,qn,B0,reduceIte,a9]
   refine qg (v := .int .i64 x71.Told) rfl ?_
   simp only [qd,qv,qb,ya,qa,qy,B0,reduceIte,a9]
   refine qu (t:=(decide (x71.Told≠v64))) (fun hc74=>?_) (fun hc74=>?_)
   ·rw [iteT hc74] at hF73
    simp only [qe,qc,qd,qa,qw,B0,reduceIte,a9]
    have e75:=qh hF73
    subst e75
    have ho76:=hr12 _ rfl
    have hk77:=hk10
    rw [ho76] at hk77
    dsimp only [jnO] at hk77
    apply hR16
    have he:=qh hk77
    subst he
    simp only [q9,B0,reduceIte,a9]
    exact rfl
   rw [iteF hc74] at hF73
   simp only [zf,qc,qd,qv,qb,yx,qa,yd,f24,qo,B0,reduceIte,a9]
   have e78:=qh hF73
   exact hN14 _ _ _ e78.symm ⟨f22,rfl,rfl,hS21⟩
  rw [iteF hc26] at hF11
  simp only [yf,yc,yp,B0,reduceIte,a9]
  have e79:=qh hF11
  exact hK15 _ _ _ e79.symm ⟨f22,f23,f24,hS21⟩
 rintro ⟨s81,s82⟩ fr83 h84 rfl ⟨f86,f87,f88,hS85⟩
 dsimp only [jnO] at hk10
 dsimp only at *
 unfold qgm at hk10
 simp only [qe,qc,f87,qd,qa,qw,B0,reduceIte,a9]
 have he:=qh hk10
 subst he
 simp only [q9,B0,reduceIte,a9]
 exact rfl
theorem qgd {W:Nat→Bool}{h:Heap} (hW:∀ b,
  (geL h.length) b→W b=true) (k:Nat) (i0:Cluster) (k_1:Int) (r:Int) (hF:ub k i0 k_1=some r) : Ret E W 13 [.agg [.int .i64 i0.Truth.Epoch,
  .int .i64 i0.Truth.Leader,lst cI i0.Truth.InStep,lst qz i0.Nodes,lst qm i0.Acked],
  .int .i64 k_1] h (fun v h'=>cut h.length h' E.sz false 9 v=some (.int .i64 r)):=by
 refine Ret.of (fn:=x13) rfl (Run.of ?_)
 unfold ub at hF
 have zf0:zb [.agg [.int .i64 i0.Truth.Epoch,.int .i64 i0.Truth.Leader,lst cI i0.Truth.InStep,lst qz i0.Nodes,lst qm i0.Acked],
   .int .i64 k_1] 0 = .agg [.int .i64 i0.Truth.Epoch,.int .i64 i0.Truth.Leader,lst cI i0.Truth.InStep,lst qz i0.Nodes,lst qm i0.Acked]:=rfl
 have zf1:zb [.agg [.int .i64 i0.Truth.Epoch,.int .i64 i0.Truth.Leader,lst cI i0.Truth.InStep,lst qz i0.Nodes,lst qm i0.Acked],
   .int .i64 k_1] 1 = .int .i64 k_1:=rfl
 generalize zb [.agg [.int .i64 i0.Truth.Epoch,.int .i64 i0.Truth.Leader,lst cI i0.Truth.InStep,lst qz i0.Nodes,lst qm i0.Acked],
   .int .i64 k_1]=fr0 at zf0 zf1 ⊢
 have hS:Sep h (geL h.length) []:=a1q h
 simp only [x13,qe,qc,j7,zf0,B0,reduceIte,a9]
 refine jm (cs:=[.int .i64 i0.Truth.Epoch,.int .i64 i0.Truth.Leader,lst cI i0.Truth.InStep,lst qz i0.Nodes,
   lst qm i0.Acked]) hS rfl rfl rfl (fun b1 h2 hS3=>?_)
 simp only [qd,qa,B0,reduceIte,a9]
 refine jc hS3 hW (by simp only [B0,reduceIte,a9]) (fun h5 hS6=>?_)
 simp only [jd,q10,qe,qc,qq,qb,s5,s9,t5,qr,qn,B0,reduceIte,a9]
 refine qg (v := .agg [.int .i64 i0.Truth.Epoch,.int .i64 i0.Truth.Leader,lst cI i0.Truth.InStep]) rfl ?_
 obtain ⟨v7,hx8,hF9⟩:=qi hF
 simp only [zf1,qd,zi,B0,reduceIte,a9]
 refine ju rfl (ql (jo (ql qs (ql qs (ql z8 zh)))) (ql qs zh)) (qmy
   (fun b hb=>decide_eq_true hb) k i0.Truth k_1 v7 hx8) ?_
 simp only [qd,qa,q70,qe,qc,qv,qb,k6,qy,B0,reduceIte,a9]
 refine qu (t:=(decide (v7<0))) (fun hc10=>?_) (fun hc10=>?_)
 ·rw [iteT hc10] at hF9
  simp only [qe,qc,qd,qa,qw,B0,reduceIte,a9]
  have he:=qh hF9
  subst he
  simp only [q9,B0,reduceIte,a9]
  exact rfl
 rw [iteF hc10] at hF9
 simp only [zf,q0j,qe,qc,qq,qb,s5,s9,t5,qr,qn,B0,reduceIte,a9]
 refine qg (v:=lst qz i0.Nodes) rfl ?_
 obtain ⟨v11,hx12,hF13⟩:=qi hF9
 simp only [qd,zi,B0,reduceIte,a9]
 refine ju rfl (ql z8 (ql qs zh)) (ql4 (fun b hb=>decide_eq_true hb) k i0.Nodes v7 v11 hx12) ?_
 simp only [qd,qa,q2i,qe,qc,qv,qb,k6,qy,B0,reduceIte,a9]
 refine qu (t:=(decide (v11<0))) (fun hc14=>?_) (fun hc14=>?_)
 ·rw [iteT hc14] at hF13
  simp only [qe,qc,qd,qa,qw,B0,reduceIte,a9]
  have he:=qh hF13
  subst he
  simp only [q9,B0,reduceIte,a9]
  exact rfl
 rw [iteF hc14] at hF13
 simp only [zf,q2a,qe,qc,qq,qb,s5,s9,t5,qr,qn,B0,reduceIte,a9]
 refine qg (v:=lst qm i0.Acked) rfl ?_
 obtain ⟨v15,hx16,hF17⟩:=qi hF13
 simp only [qd,zi,B0,reduceIte,a9]
 refine ju rfl (ql z8 (ql qs zh)) (qh5 (fun b hb=>decide_eq_true hb) k i0.Acked v11 v15 hx16) ?_
 simp only [qd,qa,q76,qe,qc,qv,qb,k6,qy,B0,reduceIte,a9]
 refine qu (t:=(decide (v15<0))) (fun hc18=>?_) (fun hc18=>?_)
 ·rw [iteT hc18] at hF17
  simp only [qe,qc,qd,qa,qw,B0,reduceIte,a9]
  have he:=qh hF17
  subst he
  simp only [q9,B0,reduceIte,a9]
  exact rfl
 rw [iteF hc18] at hF17
 simp only [zf,qe,qc,qd,qa,qw,B0,reduceIte,a9]
 have he:=qh hF17
 subst he
 simp only [q9,B0,reduceIte,a9]
 exact rfl
theorem qij {W:Nat→Bool}{h:Heap} (hW:∀ b,
  (geL h.length) b→W b=true) (i0:List ClusterStep) (left_1:Int) (r:Int) (hF:xw i0 left_1=some r) : Ret E W 25 [lst za i0,
  .int .i64 left_1] h (fun v h'=>cut h.length h' E.sz false 9 v=some (.int .i64 r)):=by
 refine Ret.of (fn:=x25) rfl (Run.of ?_)
 unfold xw at hF
 have zf0:zb [lst za i0,.int .i64 left_1] 0=lst za i0:=rfl
 have zf1:zb [lst za i0,.int .i64 left_1] 1 = .int .i64 left_1:=rfl
 generalize zb [lst za i0,.int .i64 left_1]=fr0 at zf0 zf1 ⊢
 have hS:Sep h (geL h.length) []:=a1q h
 simp only [x25,qe,qc,qd,qa,q46,zf1,zf0,zy,qb,je,qv,qlp,q62,k6,qy,B0,reduceIte,a9]
 refine qu (t:=(decide ((a0a .i64 (left_1 - (t6 i0:Int)))<0))) (fun hc1=>?_) (fun hc1=>?_)
 ·rw [iteT hc1] at hF
  simp only [qe,qc,qd,qa,qw,B0,reduceIte,a9]
  have he:=qh hF
  subst he
  simp only [q9,B0,reduceIte,a9]
  exact rfl
 rw [iteF hc1] at hF
 simp only [zf,qe,qc,qd,qa,qw,B0,reduceIte,a9]
 have he:=qh hF
 subst he
 simp only [q9,B0,reduceIte,a9]
 exact rfl
theorem qft {W:Nat→Bool}{h:Heap} (hW:∀ b,
  (geL h.length) b→W b=true) (l8:Int) (lo_1:Int) (hi_2:Int) (r:Bool) (hF:some (kt l8 lo_1 hi_2)=some r) : Ret E W 37 [.int .i64 l8,.int .i64 lo_1,
  .int .i64 hi_2] h (fun v h'=>cut h.length h' E.sz false 9 v=some (.bool r)):=by
 refine Ret.of (fn:=x37) rfl (Run.of ?_)
 unfold kt at hF
 have zf0:zb [.int .i64 l8,.int .i64 lo_1,.int .i64 hi_2] 0 = .int .i64 l8:=rfl
 have zf1:zb [.int .i64 l8,.int .i64 lo_1,.int .i64 hi_2] 1 = .int .i64 lo_1:=rfl
 have zf2:zb [.int .i64 l8,.int .i64 lo_1,.int .i64 hi_2] 2 = .int .i64 hi_2:=rfl
 generalize zb [.int .i64 l8,.int .i64 lo_1,.int .i64 hi_2]=fr0 at zf0 zf1 zf2 ⊢
 have hS:Sep h (geL h.length) []:=a1q h
 simp only [x37,qe,qc,qd,qa,q0p,zf0,zf1,qv,qb,qfg,B0,reduceIte,a9]
 refine jj 4 (fun fr' h'=>Sep h' (geL h.length) ([])∧fr' 14 = .bool ((decide (lo_1≤l8))&&(decide (l8≤hi_2)))) (fun Q1 hN2=>?_) ?_
 ·simp only [t8,a0d]
  simp only [qf (g:=10),B0,reduceIte,a9]
  refine zj (t:=(decide (lo_1≤l8))) (fun hg3=>?_) (fun hg3=>?_)
  ·simp only [hg3,qf (g:=10),zl,zf0,qd,zf2,qv,qb,qov,qx,zo,qa,qo,B0,reduceIte,a9]
   exact hN2 _ _ ⟨hS,by rw [yk hg3]; simp only [B0,reduceIte,a9]⟩
  ·simp only [hg3,qf (g:=10),jh,qx,qb,zn,qa,qo,B0,reduceIte,a9]
   exact hN2 _ _ ⟨hS,by rw [yj hg3]; simp only [B0,reduceIte,a9]⟩
 rintro fr4 h6 ⟨hS7,f5⟩
 simp only [t9,a0c]
 simp only [f5,qd,qa,qw,B0,reduceIte,a9]
 have he:=qh hF
 subst he
 simp only [q9,B0,reduceIte,a9]
 exact rfl
theorem qjq {W:Nat→Bool}{h:Heap} (hW:∀ b,
  (geL h.length) b→W b=true) (k:Nat) (l8:Int) (r:List Int) (hF:qfv k l8=some r) : Ret E W 38 [.int .i64 l8] h (fun v h'=>∃ rv0 rc0,
  v=rv0∧SlF cI 1 3 rv0 r rc0∧Sep h' (geL h.length) (rc0++([]))):=by
 refine Ret.of (fn:=x38) rfl (Run.of ?_)
 unfold qfv at hF
 have zf0:zb [.int .i64 l8] 0 = .int .i64 l8:=rfl
 generalize zb [.int .i64 l8]=fr0 at zf0 ⊢
 have hS:Sep h (geL h.length) []:=a1q h
 simp only [x38,qe,qc,qd,qa,q2s,q8h,B0,reduceIte,a9]
 obtain ⟨oc15,hX17,hk18⟩:=jy hF
 simp only [q6c]
 refine y8 (σ:=(List Int) × Int) (fun s52=>qfm l8 s52.1 s52.2) (fun s fr' h'=>∃ v9 c10,
   fr' 0 = .int .i64 l8∧fr' 3=v9∧fr' 4 = .int .i64 s.2∧SlF cI 1 3 v9 s.1 c10∧Sep h' (geL h.length) (c10++([]))) hX17 ⟨.nil,[],zf0,rfl,rfl,a25,
   (hS:Sep _ (geL h.length) ([]))⟩ (fun _ _ _ h=>h) ?_ ?_
 ·rintro ⟨s7,s12⟩ fr27 h28 ⟨v9,c10,f30,f31,f32,hv11,hS29⟩ oc16 hF19 hr20 Q21 hN22 hK23 hR24 hE25
  dsimp only at *
  unfold qfm at hF19
  simp only [q4o,qe,qc,f32,qd,f30,qv,qb,k6,qa,qy,B0,reduceIte,a9]
  refine qu (t:=(decide (s12<l8))) (fun hc34=>?_) (fun hc34=>?_)
  ·rw [iteT hc34] at hF19
   simp only [zf,q7w,qe,kj,q3g,qc,f31,qd,f32,yh,evp,B0,reduceIte,a9]
   refine kx (n:=1) (f:=cI) [s12] hS29 rfl rfl (fun v35 c36 h37 hv38 hS39=>?_)
   simp only [wt,B0,reduceIte,a9]
   obtain ⟨l41,hx42,hF43⟩:=qi hF19
   refine yn (f:=cI) hv11 (a0l hS39) hW (fun _=>rfl) (fun _=>rfl) (SlF.first hv38 hS39 (fun _=>rfl)) hx42 (fun v44 c45 h46 hv47 hS48=>?_)
   simp only [qd,qa,yd,qc,f32,qv,qb,yx,qo,B0,reduceIte,a9]
   have e50:=qh hF43
   exact hN22 _ _ _ e50.symm ⟨v44,c45,f30,rfl,rfl,hv47,(a0s (a0l hS48))⟩
  rw [iteF hc34] at hF19
  simp only [yf,yc,yp,B0,reduceIte,a9]
  have e51:=qh hF19
  exact hK23 _ _ _ e51.symm ⟨v9,c10,f30,f31,f32,hv11,hS29⟩
 rintro ⟨s53,s58⟩ fr59 h60 rfl ⟨v55,c56,f62,f63,f64,hv57,hS61⟩
 dsimp only [jnO] at hk18
 dsimp only at *
 unfold qiz at hk18
 simp only [qe,qc,f63,qd,qa,qw,B0,reduceIte,a9]
 have he:=qh hk18
 subst he
 simp only [q9,B0,reduceIte,a9]
 exact ⟨v55,c56,by first | trivial | rfl,hv57,hS61⟩
theorem qk1 {W:Nat→Bool}{h:Heap} (hW:∀ b,
  (geL h.length) b→W b=true) (k:Nat) (i7:Int) (r:Cluster × Bool) (hF:qbo k i7=some r) : Ret E W 9 [.int .i64 i7] h
  (fun v h'=>∃ n9 l9 p9 m0 o8 n7,v = .tup [.agg [.int .i64 r.1.Truth.Epoch,.int .i64 r.1.Truth.Leader,n9,p9,o8],
  .bool r.2]∧SlF cI 1 3 n9 r.1.Truth.InStep l9∧SlN Node.R 6 68 p9 r.1.Nodes m0∧SlF qm 2 92 o8 r.1.Acked n7∧Sep h' (geL h.length) (l9 ++
  (m0++(n7++([]))))):=by
 refine Ret.of (fn:=x9) rfl (Run.of ?_)
 unfold qbo at hF
 have zf0:zb [.int .i64 i7] 0 = .int .i64 i7:=rfl
 generalize zb [.int .i64 i7]=fr0 at zf0 ⊢
 have hS:Sep h (geL h.length) []:=a1q h
 simp only [x9,qe,qc,kc,B0,reduceIte,a9]
 refine jp hS (fun b1 h2 hS3=>?_)
 simp only [qd,qa,zbm,qe,qc,zf0,zi,B0,reduceIte,a9]
 refine ju rfl (ql qs (ql qs (ql qs zh))) (qft (fun b hb=>decide_eq_true hb) i7 2 4 _ rfl) ?_
 simp only [kh,qb,kz,qa,zbs,qy,B0,reduceIte,a9]
 refine qu (t:=(!(kt i7 2 4))) (fun hc5=>?_) (fun hc5=>?_)
 ·rw [iteT hc5] at hF
  simp only [qe,qc,run_build,evp,B0,reduceIte,a9]
  refine qg (v := .agg [.int .i64 0,.int .i64 0,.nil,.nil,.nil]) rfl ?_
  simp only [zp,B0,reduceIte,a9]
  refine zm (us:=[.int .i64 0,.int .i64 0,.nil,.nil,.nil]) rfl (cs':=[.int .i64 0,.int .i64 0,.nil,.nil,.nil]) hS3 hW rfl rfl (nle rfl) rfl (fun h6 hS7=>?_)
  simp only [qd,qa,qw,B0,reduceIte,a9]
  have he:=qh hF
  subst he
  refine jv (ql (j6 (bb:=b1) (oo:=0) (v := .agg [.int .i64 0,.int .i64 0,.nil,.nil,
    .nil]) (rfl) ((zr (a0r _ _ _ hS7)).trans rfl)) (ql (k8 (v := .bool false) (rfl)) zh)) ?_
  exact ⟨.nil,[],.nil,[],.nil,[],by first | trivial | rfl,a25,SlN.nil,a25,((a0s (hS7)) : Sep _ (geL h.length) ([]))⟩
 rw [iteF hc5] at hF
 obtain ⟨v8,hx9,hF10⟩:=qi hF
 simp only [zf,zbx,qe,qc,zf0,qd,zi,B0,reduceIte,a9]
 refine qbx rfl hS3 (ql qs zh) (qjq (fun b hb=>decide_eq_true hb) k i7 v8 hx9) ?_
 rintro v11 h15 ⟨_,c12,rfl,hv13,hS16⟩
 refine ⟨_,qim (a1r hv13),hS16,(j9 (a2p hv13 (fun _=>rfl)) wl),fun h17 hS18=>?_⟩
 have hS19:Sep h17 (geL h.length) (c12++([Blk1 b1 [.int .i64 0,.int .i64 0,.nil,.nil,.nil] 28]++([]))):=by simpa only [a0f,a0z] using hS18
 simp only [run_build,evp,B0,reduceIte,a9]
 refine qg (v := .agg [.int .i64 0,.int .i64 0,v11]) (qai (qag (us:=[v11]) (vs:=[.int .i64 0,.int .i64 0,
   v11]) (j8 (a0g hv13)) rfl (nle rfl) (qj (a0g hv13) zq) rfl qed)) ?_
 simp only [run_build,evp,B0,reduceIte,a9]
 refine qg (v := .agg [.int .i64 0,.int .i64 0,v11,.nil,.nil]) (qai (qag (us:=[.int .i64 0,.int .i64 0,v11]) (vs:=[.int .i64 0,.int .i64 0,v11,.nil,
   .nil]) rfl rfl (nle rfl) (qj rfl (qj rfl (qj (a0g hv13) zq))) rfl qed)) ?_
 simp only [kc,B0,reduceIte,a9]
 refine jp hS19 (fun b20 h21 hS22=>?_)
 simp only [zp,B0,reduceIte,a9]
 refine zm (us:=[.int .i64 0,.int .i64 0,v11,.nil,.nil]) rfl (cs':=[.int .i64 0,.int .i64 0,v11,.nil,
   .nil]) hS22 hW rfl (qj rfl (qj rfl (qj (a0g hv13) (qj rfl (qj rfl zq))))) (nle rfl) rfl (fun h24 hS25=>?_)
 simp only [qa,zab,qe,qc,qd,B0,reduceIte,a9]
 obtain ⟨oc40,hX42,hk43⟩:=jy hF10
 simp only [zbb]
 refine y8 (σ:=Int × Cluster) (fun s101=>qc8 k i7 v8 s101.1 s101.2) (fun s fr' h'=>∃ v35 c36,
   fr' 0 = .int .i64 i7∧fr' 2 = .ptr b1 0∧fr' 4 = .ptr b20 0∧fr' 5 = .int .i64 s.1∧SlN Node.R 6 68 v35 s.2.Nodes c36∧Sep h' (geL h.length)
   ([Blk1 b1 [.int .i64 0,.int .i64 0,.nil,.nil,.nil] 28]++([Blk1 b20 [.int .i64 s.2.Truth.Epoch,.int .i64 s.2.Truth.Leader,v11,v35,
   .nil] 28]++(c12++(c36++([])))))) hX42 ⟨.nil,[],zf0,rfl,rfl,rfl,SlN.nil,((a0k (a0l (a0l hS25))) : Sep _ (geL h.length) ([Blk1 b1 [.int .i64 0,
   .int .i64 0,.nil,.nil,.nil] 28]++([Blk1 b20 [.int .i64 0,.int .i64 0,v11,.nil,.nil] 28]++(c12++([])))))⟩ (fun _ _ _ h=>h) ?_ ?_
 ·rintro ⟨s32,s33⟩ fr52 h53 ⟨v35,c36,f55,f56,f57,f58,hv37,hS54⟩ oc41 hF44 hr45 Q46 hN47 hK48 hR49 hE50
  dsimp only at *
  unfold qc8 at hF44
  simp only [zap,qe,qc,f58,qd,f55,qv,qb,k6,qa,qy,B0,reduceIte,a9]
  refine qu (t:=(decide (s32<i7))) (fun hc60=>?_) (fun hc60=>?_)
  ·rw [iteT hc60] at hF44
   obtain ⟨l61,hx62,hF63⟩:=qi hF44
   simp only [zf,zbd,qe,kj,za7,js,f55,zv,qk,qh8,qxo,B0,reduceIte,a9]
   refine qmr (f:=cI) (z:=(0:Int)) hS54 hx62 rfl (fun v64 c65 h66 hv67 hS68=>?_)
   simp only [f57,qb0,qk,s5,s9,t5,zd,uw,B0,reduceIte,a9]
   refine qcy (Sep.ltk (a0l hS54)) ?_
   refine qt (v:=v35) ((jt (a0r _ _ _ (a0k hS68))).trans rfl) ?_
   obtain ⟨v70,hx71,hF72⟩:=qi hF63
   simp only [uf,B0,reduceIte,a9]
   refine qik rfl hS68 (ql qs zh) (qjq (fun b hb=>decide_eq_true hb) k i7 v70 hx71) ?_
   rintro v73 h77 ⟨_,c74,rfl,hv75,hS78⟩
   refine ⟨_,qim (a1r hv75),hS78,(j9 (a2p hv75 (fun _=>rfl)) wl),fun h79 hS80=>?_⟩
   have hS81:Sep h79 (geL h.length) (c74++(c65++([Blk1 b1 [.int .i64 0,.int .i64 0,.nil,.nil,.nil] 28]++([Blk1 b20 [.int .i64 s33.Truth.Epoch,
     .int .i64 s33.Truth.Leader,v11,v35,.nil] 28]++(c12++(c36++([]))))))):=by simpa only [a0f,a0z] using hS80
   simp only [qen,evp,B0,reduceIte,a9]
   refine qt (v := .agg [.int .i64 0,.int .i64 0,v73]) (qai (qag (us:=[v73]) (vs:=[.int .i64 0,.int .i64 0,
     v73]) (j8 (a0g hv75)) rfl (nle rfl) (qj (a0g hv75) zq) rfl qed)) ?_
   simp only [qen,evp,B0,reduceIte,a9]
   refine qt (v := .agg [.int .i64 0,.int .i64 0,v73,.nil,v64,.int .i64 0]) (qai (qag (us:=[.int .i64 0,.int .i64 0,v73]) (vs:=[.int .i64 0,
     .int .i64 0,v73,.nil,.nil,.int .i64 0]) rfl rfl (nle rfl) (qj rfl (qj rfl (qj (a0g hv75) zq))) rfl (qag (us:=[v64]) (vs:=[.int .i64 0,
     .int .i64 0,v73,.nil,v64,.int .i64 0]) (j8 (a0g hv67)) rfl (nle rfl) (qj (a0g hv67) zq) rfl qed))) ?_
   simp only [qdb,evp,B0,reduceIte,a9]
   refine qgl (R:=Node.R) (n:=6) (cs:=[.int .i64 0,.int .i64 0,v73,.nil,v64,
     .int .i64 0]) (os:=c74++([]++(c65))) (Sep.bi3 (c1:=c74) (c2:=[]) (c3:=c65) (S:=([Blk1 b1 [.int .i64 0,.int .i64 0,.nil,.nil,
     .nil] 28]++([Blk1 b20 [.int .i64 s33.Truth.Epoch,.int .i64 s33.Truth.Leader,v11,v35,
     .nil] 28]++(c12++(c36++([])))))) ((a0l (a0l hS81)) : Sep _ (geL h.length) (c74++(c65++([Blk1 b1 [.int .i64 0,.int .i64 0,.nil,.nil,
     .nil] 28]++([Blk1 b20 [.int .i64 s33.Truth.Epoch,.int .i64 s33.Truth.Leader,v11,v35,.nil] 28]++(c12++(c36++([]))))))))) (qag (us:=[.int .i64 0,
     .int .i64 0,v73,.nil,v64,.int .i64 0]) (vs:=[.int .i64 0,.int .i64 0,v73,.nil,v64,
     .int .i64 0]) rfl rfl (nle rfl) (qj rfl (qj rfl (qj (a0g hv75) (qj rfl (qj (a0g hv67) (qj rfl zq)))))) rfl qed) (Node.RI (x:=(Node.mk
     (View.mk 0 0 v70) [] l61 0)) hv75 a25 hv67) rfl (fun v82 c83 h84 hv85 hS86=>?_)
   simp only [qf8,B0,reduceIte,a9]
   obtain ⟨l88,hx89,hF90⟩:=qi hF72
   refine qi6 (R:=Node.R) (c:=c36) hv37 hv85 (Sep.m4 hS86) hW Node.RO.len Node.RO.one hx89 (fun v91 c92 h93 hv94 hS95=>?_)
   simp only [f57,z9,qk,s5,s9,t5,zd,qds,B0,reduceIte,a9]
   refine qcg (us:=[v91]) (j8 (a10 hv94)) (cs':=[.int .i64 s33.Truth.Epoch,.int .i64 s33.Truth.Leader,v11,v91,
     .nil]) (a0k hS95) hW rfl (qj (a10 hv94) zq) (nle rfl) rfl (fun h97 hS98=>?_)
   simp only [zc,yd,qc,f58,qd,qv,qb,yx,qa,qo,B0,reduceIte,a9]
   have e99:=qh hF90
   exact hN47 _ _ _ e99.symm ⟨v91,c92,f55,f56,f57,rfl,hv94,(a0e (a0k (a0e (a0l hS98))))⟩
  rw [iteF hc60] at hF44
  simp only [yf,yc,yp,B0,reduceIte,a9]
  have e100:=qh hF44
  exact hK48 _ _ _ e100.symm ⟨v35,c36,f55,f56,f57,f58,hv37,(a0e (a0e (a0e (a0e hS54))))⟩
 rintro ⟨s102,s103⟩ fr108 h109 rfl ⟨v105,c106,f111,f112,f113,f114,hv107,hS110⟩
 dsimp only [jnO] at hk43
 dsimp only at *
 unfold qf7 at hk43
 simp only [qe,qc,f113,qn,B0,reduceIte,a9]
 refine qg (v := .agg [.int .i64 s103.Truth.Epoch,.int .i64 s103.Truth.Leader,v11,v105,.nil]) ((zr (a0r _ _ _ (a0l hS110))).trans rfl) ?_
 simp only [f112,zp,B0,reduceIte,a9]
 refine zm (us:=[.int .i64 s103.Truth.Epoch,.int .i64 s103.Truth.Leader,v11,v105,.nil]) rfl (cs':=[.int .i64 s103.Truth.Epoch,.int .i64 s103.Truth.Leader,v11,
   v105,.nil]) hS110 hW rfl (qj rfl (qj rfl (qj (a0g hv13) (qj (a10 hv107) (qj rfl zq))))) (nle rfl) rfl (fun h115 hS116=>?_)
 simp only [qd,qa,qw,B0,reduceIte,a9]
 have he:=qh hk43
 subst he
 refine jv (ql (j6 (bb:=b1) (oo:=0) (v := .agg [.int .i64 s103.Truth.Epoch,.int .i64 s103.Truth.Leader,v11,v105,
   .nil]) (f112) ((zr (a0r _ _ _ hS116)).trans rfl)) (ql (k8 (v := .bool true) (rfl)) zh)) ?_
 exact ⟨v11,c12,v105,c106,.nil,[],by first | trivial | rfl,hv13,hv107,a25,
   ((a0l (a0l (a0s ((a0s (hS116)))))) : Sep _ (geL h.length) (c12++(c106++([]))))⟩
theorem qhd {W:Nat→Bool}{h:Heap} (hW:∀ b,
  (geL h.length) b→W b=true) (l4:Cluster) (k_1:Int) (r:Bool) (hF:qan l4 k_1=some r) : Ret E W 60 [.agg [.int .i64 l4.Truth.Epoch,
  .int .i64 l4.Truth.Leader,lst cI l4.Truth.InStep,lst qz l4.Nodes,lst qm l4.Acked],
  .int .i64 k_1] h (fun v h'=>cut h.length h' E.sz false 9 v=some (.bool r)):=by
 refine Ret.of (fn:=x60) rfl (Run.of ?_)
 unfold qan at hF
 have zf0:zb [.agg [.int .i64 l4.Truth.Epoch,.int .i64 l4.Truth.Leader,lst cI l4.Truth.InStep,lst qz l4.Nodes,lst qm l4.Acked],
   .int .i64 k_1] 0 = .agg [.int .i64 l4.Truth.Epoch,.int .i64 l4.Truth.Leader,lst cI l4.Truth.InStep,lst qz l4.Nodes,lst qm l4.Acked]:=rfl
 have zf1:zb [.agg [.int .i64 l4.Truth.Epoch,.int .i64 l4.Truth.Leader,lst cI l4.Truth.InStep,lst qz l4.Nodes,lst qm l4.Acked],
   .int .i64 k_1] 1 = .int .i64 k_1:=rfl
 generalize zb [.agg [.int .i64 l4.Truth.Epoch,.int .i64 l4.Truth.Leader,lst cI l4.Truth.InStep,lst qz l4.Nodes,lst qm l4.Acked],
   .int .i64 k_1]=fr0 at zf0 zf1 ⊢
 have hS:Sep h (geL h.length) []:=a1q h
 simp only [x60,qe,qc,j7,zf0,B0,reduceIte,a9]
 refine jm (cs:=[.int .i64 l4.Truth.Epoch,.int .i64 l4.Truth.Leader,lst cI l4.Truth.InStep,lst qz l4.Nodes,
   lst qm l4.Acked]) hS rfl rfl rfl (fun b1 h2 hS3=>?_)
 simp only [qd,qa,B0,reduceIte,a9]
 refine jc hS3 hW (by simp only [B0,reduceIte,a9]) (fun h5 hS6=>?_)
 simp only [jd,q43,qe,qc,qq,qb,s5,s9,t5,qr,qn,B0,reduceIte,a9]
 refine qg (v:=lst qz l4.Nodes) rfl ?_
 obtain ⟨x7,hx8,hF9⟩:=qi hF
 simp only [zf1,qd,ji,B0,reduceIte,a9]
 refine qg (v := .ref (qz x7) 0) (kw hx8 rfl) ?_
 simp only [qq,qb,s5,s9,t5,qr,qn,B0,reduceIte,a9]
 refine qg (v := .int .i64 x7.View.Leader) rfl ?_
 simp only [zf1,qd,qv,qb,k7,qa,qw,B0,reduceIte,a9]
 have he:=qh hF9
 subst he
 simp only [q9,B0,reduceIte,a9]
 exact rfl
theorem qhl {W:Nat→Bool}{h:Heap} (hW:∀ b,
  (geL h.length) b→W b=true) (r5:List Int) (r6:Int) (r:Bool) (hF:qci r5 r6=some r) : Ret E W 73 [lst cI r5,
  .int .i64 r6] h (fun v h'=>cut h.length h' E.sz false 9 v=some (.bool r)):=by
 refine Ret.of (fn:=x73) rfl (Run.of ?_)
 unfold qci at hF
 have zf0:zb [lst cI r5,.int .i64 r6] 0=lst cI r5:=rfl
 have zf1:zb [lst cI r5,.int .i64 r6] 1 = .int .i64 r6:=rfl
 generalize zb [lst cI r5,.int .i64 r6]=fr0 at zf0 zf1 ⊢
 have hS:Sep h (geL h.length) []:=a1q h
 simp only [x73,qe,qc,qd,qa,q8l,zf0,zy,qb,je,B0,reduceIte,a9]
 obtain ⟨oc3,hX5,hk6⟩:=jy hF
 simp only [q20]
 refine xd (σ:=Unit) r5 (fun i1 x2 _=>qee r6 i1 x2 ) (fun s fr' h'=>fr' 1 = .int .i64 r6∧fr' 7=lst cI r5∧Sep h' (geL h.length) ([])) hX5 ⟨zf1,
   rfl,hS⟩ (by simp only [B0,reduceIte,a9]) (by simp only [B0,reduceIte,
   a9]) (fun _ _ _ h=>h) rfl rfl (fun _ _ _ _ h=>h) (fun _ _ _ _ h=>h) (fun _ _ _ _ h=>h) (by decide) ?_ ?_
 ·rintro i1 x2 _ fr15 h16 hx20 ⟨f18,f19,hS17⟩ f21 f22 oc4 hF7 hr8 Q9 hN10 hB14 hK11 hR12 hE13
  unfold qee at hF7
  simp only [q1k,qe,qc,f19,f21,ji,B0,reduceIte,a9]
  refine qg (v := .ref (cI x2) 0) (xg hx20 rfl) ?_
  simp only [qn,B0,reduceIte,a9]
  refine qg (v := .int .i64 x2) rfl ?_
  simp only [qd,qa,q4c,qe,qc,f18,qv,qb,k7,qy,B0,reduceIte,a9]
  refine qu (t:=(decide (x2=r6))) (fun hc23=>?_) (fun hc23=>?_)
  ·rw [iteT hc23] at hF7
   simp only [qe,qc,qd,qa,qw,B0,reduceIte,a9]
   have e24:=qh hF7
   subst e24
   have ho25:=hr8 _ rfl
   have hk26:=hk6
   rw [ho25] at hk26
   dsimp only [jnO] at hk26
   apply hR12
   have he:=qh hk26
   subst he
   simp only [q9,B0,reduceIte,a9]
   exact rfl
  rw [iteF hc23] at hF7
  simp only [zf,qo,B0,reduceIte,a9]
  have e27:=qh hF7
  exact hN10 _ _ _ e27.symm ⟨f18,f19,hS17⟩ (f21) (f22)
 rintro _ fr29 h30 rfl ⟨f32,f33,hS31⟩
 dsimp only [jnO] at hk6
 unfold qjo at hk6
 simp only [qe,qc,qd,qa,qw,B0,reduceIte,a9]
 have he:=qh hk6
 subst he
 simp only [q9,B0,reduceIte,a9]
 exact rfl
theorem qo9 {W:Nat→Bool}{h:Heap} (hW:∀ b,
  (geL h.length) b→W b=true) (i0:List Int) (i6:List Int) (r:Bool) (hF:qgz i0 i6=some r) : Ret E W 97 [lst cI i0,
  lst cI i6] h (fun v h'=>cut h.length h' E.sz false 9 v=some (.bool r)):=by
 refine Ret.of (fn:=x97) rfl (Run.of ?_)
 unfold qgz at hF
 have zf0:zb [lst cI i0,lst cI i6] 0=lst cI i0:=rfl
 have zf1:zb [lst cI i0,lst cI i6] 1=lst cI i6:=rfl
 generalize zb [lst cI i0,lst cI i6]=fr0 at zf0 zf1 ⊢
 have hS:Sep h (geL h.length) []:=a1q h
 simp only [x97,qe,qc,qd,qa,q6x,zf1,zy,qb,je,B0,reduceIte,a9]
 obtain ⟨oc3,hX5,hk6⟩:=jy hF
 simp only [q23]
 refine xd (σ:=Unit) i6 (fun i1 x2 _=>qeg i0 i1 x2 ) (fun s fr' h'=>fr' 0=lst cI i0∧fr' 7=lst cI i6∧Sep h' (geL h.length) ([])) hX5 ⟨zf0,rfl,
   hS⟩ (by simp only [B0,reduceIte,a9]) (by simp only [B0,reduceIte,
   a9]) (fun _ _ _ h=>h) rfl rfl (fun _ _ _ _ h=>h) (fun _ _ _ _ h=>h) (fun _ _ _ _ h=>h) (by decide) ?_ ?_
 ·rintro i1 x2 _ fr15 h16 hx20 ⟨f18,f19,hS17⟩ f21 f22 oc4 hF7 hr8 Q9 hN10 hB14 hK11 hR12 hE13
  unfold qeg at hF7
  simp only [qzq,qe,qc,f19,f21,ji,B0,reduceIte,a9]
  refine qg (v := .ref (cI x2) 0) (xg hx20 rfl) ?_
  simp only [qn,B0,reduceIte,a9]
  refine qg (v := .int .i64 x2) rfl ?_
  obtain ⟨v23,hx24,hF25⟩:=qi hF7
  simp only [qd,qa,q2p,qe,qc,f18,zi,B0,reduceIte,a9]
  refine ju rfl (ql z8 (ql qs zh)) (qhl (fun b hb=>decide_eq_true hb) i0 x2 v23 hx24) ?_
  simp only [kh,qb,kz,qa,qy,B0,reduceIte,a9]
  refine qu (t:=(!v23)) (fun hc26=>?_) (fun hc26=>?_)
  ·rw [iteT hc26] at hF25
   simp only [qe,qc,qd,qa,qw,B0,reduceIte,a9]
   have e27:=qh hF25
   subst e27
   have ho28:=hr8 _ rfl
   have hk29:=hk6
   rw [ho28] at hk29
   dsimp only [jnO] at hk29
   apply hR12
   have he:=qh hk29
   subst he
   simp only [q9,B0,reduceIte,a9]
   exact rfl
  rw [iteF hc26] at hF25
  simp only [zf,qo,B0,reduceIte,a9]
  have e30:=qh hF25
  exact hN10 _ _ _ e30.symm ⟨f18,f19,hS17⟩ (f21) (f22)
 rintro _ fr32 h33 rfl ⟨f35,f36,hS34⟩
 dsimp only [jnO] at hk6
 unfold qjp at hk6
 simp only [qe,qc,qd,qa,qw,B0,reduceIte,a9]
 have he:=qh hk6
 subst he
 simp only [q9,B0,reduceIte,a9]
 exact rfl
theorem qm6 {W:Nat→Bool}{h:Heap} (hW:∀ b,
  (geL h.length) b→W b=true) (i0:List Int) (i6:List Int) (r:Bool) (hF:qdd i0 i6=some r) : Ret E W 82 [lst cI i0,
  lst cI i6] h (fun v h'=>cut h.length h' E.sz false 9 v=some (.bool r)):=by
 refine Ret.of (fn:=x82) rfl (Run.of ?_)
 unfold qdd at hF
 have zf0:zb [lst cI i0,lst cI i6] 0=lst cI i0:=rfl
 have zf1:zb [lst cI i0,lst cI i6] 1=lst cI i6:=rfl
 generalize zb [lst cI i0,lst cI i6]=fr0 at zf0 zf1 ⊢
 have hS:Sep h (geL h.length) []:=a1q h
 obtain ⟨v1,hx2,hF3⟩:=qi hF
 simp only [x82,qe,qc,qd,qa,q69,zf0,zf1,zi,B0,reduceIte,a9]
 refine ju rfl (ql z8 (ql z8 zh)) (qo9 (fun b hb=>decide_eq_true hb) i0 i6 v1 hx2) ?_
 simp only [qd,B0,reduceIte,a9]
 refine jj 6 (fun fr' h'=>Sep h' (geL h.length) ([])∧fr' 14 = .bool (v1&&(decide ((t6 i0:Int)=(t6 i6:Int))))) (fun Q4 hN5=>?_) ?_
 ·simp only [t8,a0d]
  simp only [qf (g:=8),B0,reduceIte,a9]
  refine zj (t:=v1) (fun hg6=>?_) (fun hg6=>?_)
  ·simp only [hg6,qf (g:=8),zl,zf0,qd,zy,qb,je,zf1,qv,k7,qx,zo,qa,qo,B0,reduceIte,
    a9]
   exact hN5 _ _ ⟨hS,by rw [yk hg6]; simp only [B0,reduceIte,a9]⟩
  ·simp only [hg6,qf (g:=8),jh,qx,qb,zn,qa,qo,B0,reduceIte,a9]
   exact hN5 _ _ ⟨hS,by rw [yj hg6]; simp only [B0,reduceIte,a9]⟩
 rintro fr7 h9 ⟨hS10,f8⟩
 simp only [t9,a0c]
 simp only [f8,qd,qa,qw,B0,reduceIte,a9]
 have he:=qh hF3
 subst he
 simp only [q9,B0,reduceIte,a9]
 exact rfl
theorem qnn {W:Nat→Bool}{h:Heap} (hW:∀ b,
  (geL h.length) b→W b=true) (i0:View) (i6:View) (r:Bool) (hF:qdi i0 i6=some r) : Ret E W 61 [.agg [.int .i64 i0.Epoch,.int .i64 i0.Leader,
  lst cI i0.InStep],.agg [.int .i64 i6.Epoch,.int .i64 i6.Leader,lst cI i6.InStep]] h (fun v h'=>cut h.length h' E.sz false 9 v=some (.bool r)):=by
 refine Ret.of (fn:=x61) rfl (Run.of ?_)
 unfold qdi at hF
 have zf0:zb [.agg [.int .i64 i0.Epoch,.int .i64 i0.Leader,lst cI i0.InStep],.agg [.int .i64 i6.Epoch,.int .i64 i6.Leader,
   lst cI i6.InStep]] 0 = .agg [.int .i64 i0.Epoch,.int .i64 i0.Leader,lst cI i0.InStep]:=rfl
 have zf1:zb [.agg [.int .i64 i0.Epoch,.int .i64 i0.Leader,lst cI i0.InStep],.agg [.int .i64 i6.Epoch,.int .i64 i6.Leader,
   lst cI i6.InStep]] 1 = .agg [.int .i64 i6.Epoch,.int .i64 i6.Leader,lst cI i6.InStep]:=rfl
 generalize zb [.agg [.int .i64 i0.Epoch,.int .i64 i0.Leader,lst cI i0.InStep],.agg [.int .i64 i6.Epoch,.int .i64 i6.Leader,lst cI i6.InStep]]=fr0 at zf0 zf1 ⊢
 have hS:Sep h (geL h.length) []:=a1q h
 simp only [x61,qe,qc,j7,zf0,B0,reduceIte,a9]
 refine jm (cs:=[.int .i64 i0.Epoch,.int .i64 i0.Leader,lst cI i0.InStep]) hS rfl rfl rfl (fun b1 h2 hS3=>?_)
 simp only [j7,zf1,B0,reduceIte,a9]
 refine jm (cs:=[.int .i64 i6.Epoch,.int .i64 i6.Leader,lst cI i6.InStep]) hS3 rfl rfl rfl (fun b5 h6 hS7=>?_)
 simp only [qd,qa,B0,reduceIte,a9]
 refine jc (a0l hS7) hW (by simp only [B0,reduceIte,a9]) (fun h9 hS10=>?_)
 refine jc hS10 hW (by simp only [B0,reduceIte,a9]) (fun h11 hS12=>?_)
 simp only [jd,q49,qe,qc,qq,qb,s5,s9,t5,qr,qn,B0,reduceIte,a9]
 refine qg (v := .int .i64 i0.Epoch) rfl ?_
 simp only [qq,qb,s5,s9,t5,qr,qn,B0,reduceIte,a9]
 refine qg (v := .int .i64 i6.Epoch) rfl ?_
 simp only [qv,qb,k7,qd,B0,reduceIte,a9]
 refine jj 6 (fun fr' h'=>Sep h' (geL h.length) ([])∧fr' 16 = .bool ((decide (i0.Epoch=i6.Epoch))&&(decide
   (i0.Leader=i6.Leader)))∧fr' 2 = .ref [.int .i64 i0.Epoch,.int .i64 i0.Leader,lst cI i0.InStep] 0∧fr' 3 = .ref [.int .i64 i6.Epoch,.int .i64 i6.Leader,
   lst cI i6.InStep] 0) (fun Q13 hN14=>?_) ?_
 ·simp only [t8,a0d]
  simp only [qf (g:=10),B0,reduceIte,a9]
  refine zj (t:=(decide (i0.Epoch=i6.Epoch))) (fun hg15=>?_) (fun hg15=>?_)
  ·simp only [hg15,qf (g:=10),zl,qq,qb,s5,s9,t5,qr,qn,B0,reduceIte,a9]
   refine qg (v := .int .i64 i0.Leader) rfl ?_
   simp only [hg15,qf (g:=10),zl,qq,qb,s5,s9,t5,qr,qn,B0,reduceIte,a9]
   refine qg (v := .int .i64 i6.Leader) rfl ?_
   simp only [hg15,qf (g:=10),zl,qv,qb,k7,qx,zo,qa,qo,B0,reduceIte,a9]
   exact hN14 _ _ ⟨hS12,by rw [yk hg15]; simp only [B0,reduceIte,a9],rfl,rfl⟩
  ·simp only [hg15,qf (g:=10),jh,qx,qb,zn,qa,qo,B0,reduceIte,a9]
   exact hN14 _ _ ⟨hS12,by rw [yj hg15]; simp only [B0,reduceIte,a9],rfl,rfl⟩
 rintro fr16 h20 ⟨hS21,f17,f18,f19⟩
 simp only [t9,a0c]
 simp only [f17,qd,B0,reduceIte,a9]
 obtain ⟨v25,hx26,hF27⟩:=qi hF
 refine jj 6 (fun fr' h'=>Sep h' (geL h.length) ([])∧fr' 23 = .bool v25) (fun Q22 hN23=>?_) ?_
 ·simp only [t8,a0d]
  simp only [qf (g:=17),B0,reduceIte,a9]
  refine zj (t:=((decide (i0.Epoch=i6.Epoch))&&(decide (i0.Leader=i6.Leader)))) (fun hg24=>?_) (fun hg24=>?_)
  ·rw [iteT hg24] at hx26
   simp only [hg24,qf (g:=17),zl,f18,qq,qb,s5,s9,t5,qr,qn,B0,reduceIte,a9]
   refine qg (v:=lst cI i0.InStep) rfl ?_
   simp only [hg24,qf (g:=17),zl,f19,qq,qb,s5,s9,t5,qr,qn,B0,reduceIte,a9]
   refine qg (v:=lst cI i6.InStep) rfl ?_
   obtain ⟨v28,hx29,hF30⟩:=qi hx26
   simp only [hg24,qf (g:=17),zl,zi,B0,reduceIte,a9]
   refine ju rfl (ql z8 (ql z8 zh)) (qm6 (fun b hb=>decide_eq_true hb) i0.InStep i6.InStep v28 hx29) ?_
   simp only [hg24,qx,qb,zo,qa,qo,B0,reduceIte,a9]
   have e31:=qh hF30
   exact hN23 _ _ ⟨hS21,by rw [←e31]; simp only [B0,reduceIte,a9]⟩
  ·rw [iteF hg24] at hx26
   simp only [hg24,qf (g:=17),jh,qx,qb,zn,qa,qo,B0,reduceIte,a9]
   have e32:=qh hx26
   exact hN23 _ _ ⟨hS21,by rw [←e32]; simp only [B0,reduceIte,a9]⟩
 rintro fr33 h35 ⟨hS36,f34⟩
 simp only [t9,a0c]
 simp only [f34,qd,qa,qw,B0,reduceIte,a9]
 have he:=qh hF27
 subst he
 simp only [q9,B0,reduceIte,a9]
 exact rfl
end Go.Proofs.Ytohofoampalhoaa.X
