/- The functions' code comes to what the plain functions say (6). -/
import Derived.Test.YtohofoampalhoaaXGH5
open List renaming append_assoc→l5,drop_succ_cons→i0,drop_zero→i6,length→f0,nil_append→r7,set→a0u,take_succ_cons→f4,take_zero→i7
open Nat renaming add_zero→e8,reduceAdd→d8,reduceEqDiff→a9,zero_add→d9
open Option renaming map_none→a0m,map_some→t8
open Go.Proofs.Ytohofoampalhoaa.X.Sep renaming bk→o9,dc→o8,m1→n7,m2→l9,m3→l6,m4→n9,m5→t9,m6→s9,ni3→a0q,nil→a0k,no3→a1v
open Go.Proofs.Ytohofoampalhoaa.X.SlF renaming isrow→a04,one→l7,plen→a1n,rowfp→a23
open Go.Proofs.Ytohofoampalhoaa.X.SlG renaming cls0→a0z,ld→a1u,opn→a1t,toN→a0s
open Go.Proofs.Ytohofoampalhoaa.X.SlN renaming one→a09,toG→a14
set_option linter.unusedVariables false
set_option linter.unusedSimpArgs false
set_option maxRecDepth 100000
namespace Go.Proofs.Ytohofoampalhoaa.X
open Go
theorem qht {W:Nat→Bool}{h:Heap} (hW:∀ b,
  (geL h.length) b→W b=true) (k_0:Int) (cap_0:Node) (cap_1:Int) (r:Bool) (hF:some (wi k_0 cap_0 cap_1)=some r) : Ret E W 95 [.int .i64 k_0,
  .ref (qq cap_0) 0,.ref (cI cap_1) 0] h (fun v h'=>cut h.length h' E.sz false 9 v=some (.bool r)):=by
 refine Ret.of (fn:=x95) rfl (Run.of ?_)
 unfold wi at hF
 have zf0:zb [.int .i64 k_0,.ref (qq cap_0) 0,.ref (cI cap_1) 0] 0 = .int .i64 k_0:=rfl
 have zf1:zb [.int .i64 k_0,.ref (qq cap_0) 0,.ref (cI cap_1) 0] 1 = .ref (qq cap_0) 0:=rfl
 have zf2:zb [.int .i64 k_0,.ref (qq cap_0) 0,.ref (cI cap_1) 0] 2 = .ref (cI cap_1) 0:=rfl
 generalize zb [.int .i64 k_0,.ref (qq cap_0) 0,.ref (cI cap_1) 0]=fr0 at zf0 zf1 zf2 ⊢
 have hS:Sep h (geL h.length) []:=a0k h
 simp only [x95,qc,qd,qf,qa,qzv,zf0,zf1,qt,qb,d8,d9,e8,qs,qn,B0,reduceIte,
   a9]
 refine qh (v:=lst qg cap_0.Log) rfl ?_
 simp only [zy,qb,jd,zg,B0,reduceIte,a9]
 refine jo rfl (qi qo (qi qo (qi qo zc))) (uc (fun b hb=>decide_eq_true hb) k_0 0 (f0 cap_0.Log:Int) _ rfl) ?_
 simp only [j8,qb,ko,qf,B0,reduceIte,a9]
 refine ji 10 (fun fr' h'=>Sep h' (geL h.length) ([])∧fr' 21 = .bool ((!(jc k_0 0 (f0 cap_0.Log:Int)))||((decide (cap_0.View.Leader≠cap_1))&&(decide
   (k_0≠0))))) (fun Q1 hN2=>?_) ?_
 ·simp only [f4,i7]
  simp only [qe (g:=11),B0,reduceIte,a9]
  refine ze (t:=(!(jc k_0 0 (f0 cap_0.Log:Int)))) (fun hg3=>?_) (fun hg3=>?_)
  ·simp only [hg3,qe (g:=11),jk,qe (g:=17),xh,qw,qb,zo,qa,qp,B0,reduceIte,a9]
   exact hN2 _ _ ⟨hS,by rw [orT hg3]; simp only [B0,reduceIte,a9]⟩
  ·simp only [hg3,qe (g:=11),qv,zf1,qt,qb,d8,d9,e8,qs,qn,B0,reduceIte,a9]
   refine qh (v := .int .i64 cap_0.View.Leader) rfl ?_
   simp only [hg3,qe (g:=11),qv,zf2,qn,B0,reduceIte,a9]
   refine qh (v := .int .i64 cap_1) rfl ?_
   simp only [hg3,qe (g:=11),qv,qz,qb,ya,qf,B0,reduceIte,a9]
   refine ji 3 (fun fr' h'=>Sep h' (geL h.length) ([])∧fr' 20 = .bool ((decide (cap_0.View.Leader≠cap_1))&&(decide (k_0≠0)))∧fr' 11 = .bool (!(jc k_0 0
     (f0 cap_0.Log:Int)))) (fun Q4 hN5=>?_) ?_
   ·simp only [f4,i7]
    simp only [qe (g:=17),B0,reduceIte,a9]
    refine ze (t:=(decide (cap_0.View.Leader≠cap_1))) (fun hg6=>?_) (fun hg6=>?_)
    ·simp only [hg6,qe (g:=17),zi,zf0,qf,qz,qb,ya,hg3,qe (g:=11),qv,qw,zo,qa,qp,
      B0,reduceIte,a9]
     exact hN5 _ _ ⟨hS,by rw [yb hg6]; simp only [B0,reduceIte,a9],by simp only [hg3,B0,reduceIte,a9]⟩
    ·simp only [hg6,qe (g:=17),jj,hg3,qe (g:=11),qv,qw,qb,zn,qa,qp,B0,reduceIte,a9]
     exact hN5 _ _ ⟨hS,by rw [yd hg6]; simp only [B0,reduceIte,a9],by simp only [hg3,B0,reduceIte,a9]⟩
   rintro fr7 h10 ⟨hS11,f8,f9⟩
   simp only [i0,i6]
   simp only [f9,hg3,qw,qb,zn,f8,qa,qp,B0,reduceIte,a9]
   exact hN2 _ _ ⟨hS11,by rw [orF hg3]; simp only [B0,reduceIte,a9]⟩
 rintro fr12 h14 ⟨hS15,f13⟩
 simp only [i0,i6]
 simp only [f13,qf,qa,qx,B0,reduceIte,a9]
 have he:=qj hF
 subst he
 simp only [q8,B0,reduceIte,a9]
 exact rfl
theorem qi5 {W:Nat→Bool}{h:Heap} (hW:∀ b,
  (geL h.length) b→W b=true) (n_0:Node) (own_1:Int) (nodes_2:Int) (r:Bool)
  (hF:ud n_0 own_1 nodes_2=some r) : Ret E W 79 [.agg [.int .i64 n_0.View.Epoch,.int .i64 n_0.View.Leader,lst cI n_0.View.InStep,lst qg n_0.Log,
  lst cI n_0.Known,.int .i64 n_0.Told],.int .i64 own_1,.int .i64 nodes_2] h (fun v h'=>cut h.length h' E.sz false 9 v=some (.bool r)):=by
 refine Ret.of (fn:=x79) rfl (Run.of ?_)
 unfold ud at hF
 have zf0:zb [.agg [.int .i64 n_0.View.Epoch,.int .i64 n_0.View.Leader,lst cI n_0.View.InStep,lst qg n_0.Log,lst cI n_0.Known,.int .i64 n_0.Told],
   .int .i64 own_1,.int .i64 nodes_2] 0 = .agg [.int .i64 n_0.View.Epoch,.int .i64 n_0.View.Leader,lst cI n_0.View.InStep,lst qg n_0.Log,lst cI n_0.Known,
   .int .i64 n_0.Told]:=rfl
 have zf1:zb [.agg [.int .i64 n_0.View.Epoch,.int .i64 n_0.View.Leader,lst cI n_0.View.InStep,lst qg n_0.Log,lst cI n_0.Known,.int .i64 n_0.Told],
   .int .i64 own_1,.int .i64 nodes_2] 1 = .int .i64 own_1:=rfl
 have zf2:zb [.agg [.int .i64 n_0.View.Epoch,.int .i64 n_0.View.Leader,lst cI n_0.View.InStep,lst qg n_0.Log,lst cI n_0.Known,.int .i64 n_0.Told],
   .int .i64 own_1,.int .i64 nodes_2] 2 = .int .i64 nodes_2:=rfl
 generalize zb [.agg [.int .i64 n_0.View.Epoch,.int .i64 n_0.View.Leader,lst cI n_0.View.InStep,lst qg n_0.Log,lst cI n_0.Known,.int .i64 n_0.Told],
   .int .i64 own_1,.int .i64 nodes_2]=fr0 at zf0 zf1 zf2 ⊢
 have hS:Sep h (geL h.length) []:=a0k h
 simp only [x79,qc,qd,jp,zf0,B0,reduceIte,a9]
 refine je (cs:=[.int .i64 n_0.View.Epoch,.int .i64 n_0.View.Leader,lst cI n_0.View.InStep,lst qg n_0.Log,lst cI n_0.Known,
   .int .i64 n_0.Told]) hS rfl rfl rfl (fun b1 h2 hS3=>?_)
 simp only [jp,zf1,B0,reduceIte,a9]
 refine je (cs:=[.int .i64 own_1]) hS3 rfl rfl rfl (fun b5 h6 hS7=>?_)
 simp only [qf,qa,B0,reduceIte,a9]
 refine zx (n7 hS7) hW (by simp only [B0,reduceIte,a9]) (fun h9 hS10=>?_)
 refine zx hS10 hW (by simp only [B0,reduceIte,a9]) (fun h11 hS12=>?_)
 simp only [zw,q5x,qc,qd,qt,qb,d8,d9,e8,qs,qn,B0,reduceIte,a9]
 refine qh (v := .agg [.int .i64 n_0.View.Epoch,.int .i64 n_0.View.Leader,lst cI n_0.View.InStep]) rfl ?_
 obtain ⟨v13,hx14,hF15⟩:=qk hF
 simp only [zf2,qf,zg,B0,reduceIte,a9]
 refine jo rfl (qi (zv (qi qo (qi qo (qi zk zc)))) (qi qo zc)) (qjh
   (fun b hb=>decide_eq_true hb) n_0.View nodes_2 v13 hx14) ?_
 simp only [j8,qb,ko,qf,B0,reduceIte,a9]
 obtain ⟨v19,hx20,hF21⟩:=qk hF15
 refine ji 8 (fun fr' h'=>Sep h' (geL h.length) ([])∧fr' 20 = .bool v19∧fr' 2 = .int .i64 nodes_2∧fr' 3 = .ref [.int .i64 n_0.View.Epoch,.int .i64 n_0.View.Leader,
   lst cI n_0.View.InStep,lst qg n_0.Log,lst cI n_0.Known,.int .i64 n_0.Told] 0∧fr' 4 = .ref [.int .i64 own_1] 0) (fun Q16 hN17=>?_) ?_
 ·simp only [f4,i7]
  simp only [qe (g:=12),B0,reduceIte,a9]
  refine ze (t:=(!v13)) (fun hg18=>?_) (fun hg18=>?_)
  ·rw [iteT hg18] at hx20
   simp only [hg18,qe (g:=12),jk,qw,qb,zo,qa,qp,B0,reduceIte,a9]
   have e22:=qj hx20
   exact hN17 _ _ ⟨hS12,by rw [←e22]; simp only [B0,reduceIte,a9],zf2,rfl,rfl⟩
  ·rw [iteF hg18] at hx20
   simp only [hg18,qe (g:=12),qv,qt,qb,d8,d9,e8,qs,qn,B0,reduceIte,a9]
   refine qh (v:=lst qg n_0.Log) rfl ?_
   simp only [hg18,qe (g:=12),qv,qt,qb,d8,d9,e8,qs,qn,B0,reduceIte,a9]
   refine qh (v := .int .i64 n_0.View.Epoch) rfl ?_
   obtain ⟨v23,hx24,hF25⟩:=qk hx20
   simp only [hg18,qe (g:=12),qv,zg,B0,reduceIte,a9]
   refine jo rfl (qi zk (qi qo zc)) (qob (fun b hb=>decide_eq_true hb) n_0.Log n_0.View.Epoch v23 hx24) ?_
   simp only [hg18,qe (g:=12),qv,j8,qb,ko,qw,zn,qa,qp,B0,reduceIte,a9]
   have e26:=qj hF25
   exact hN17 _ _ ⟨hS12,by rw [←e26]; simp only [B0,reduceIte,a9],zf2,rfl,rfl⟩
 rintro fr27 h32 ⟨hS33,f28,f29,f30,f31⟩
 simp only [i0,i6]
 simp only [f28,qf,B0,reduceIte,a9]
 refine ji 6 (fun fr' h'=>Sep h' (geL h.length) ([])∧fr' 27 = .bool (v19||(decide ((f0 n_0.Known:Int)≠nodes_2)))∧fr' 3 = .ref [.int .i64 n_0.View.Epoch,
   .int .i64 n_0.View.Leader,lst cI n_0.View.InStep,lst qg n_0.Log,lst cI n_0.Known,.int .i64 n_0.Told] 0∧fr' 4 = .ref [.int .i64 own_1] 0) (fun Q34 hN35=>?_) ?_
 ·simp only [f4,i7]
  simp only [qe (g:=21),B0,reduceIte,a9]
  refine ze (t:=v19) (fun hg36=>?_) (fun hg36=>?_)
  ·simp only [hg36,qe (g:=21),jk,qw,qb,zo,qa,qp,B0,reduceIte,a9]
   exact hN35 _ _ ⟨hS33,by rw [orT hg36]; simp only [B0,reduceIte,a9],f30,f31⟩
  ·simp only [hg36,qe (g:=21),qv,f30,qt,qb,d8,d9,e8,qs,qn,B0,reduceIte,a9]
   refine qh (v:=lst cI n_0.Known) rfl ?_
   simp only [hg36,qe (g:=21),qv,zy,qb,jd,f29,qf,qz,ya,qw,zn,qa,qp,B0,reduceIte,
     a9]
   exact hN35 _ _ ⟨hS33,by rw [orF hg36]; simp only [B0,reduceIte,a9],f30,f31⟩
 rintro fr37 h41 ⟨hS42,f38,f39,f40⟩
 simp only [i0,i6]
 simp only [f38,qf,B0,reduceIte,a9]
 refine ji 8 (fun fr' h'=>Sep h' (geL h.length) ([])∧fr' 36 = .bool ((v19||(decide ((f0 n_0.Known:Int)≠nodes_2)))||(!(jc n_0.Told 0
   (f0 n_0.Log:Int))))∧fr' 3 = .ref [.int .i64 n_0.View.Epoch,.int .i64 n_0.View.Leader,lst cI n_0.View.InStep,lst qg n_0.Log,lst cI n_0.Known,
   .int .i64 n_0.Told] 0∧fr' 4 = .ref [.int .i64 own_1] 0) (fun Q43 hN44=>?_) ?_
 ·simp only [f4,i7]
  simp only [qe (g:=28),B0,reduceIte,a9]
  refine ze (t:=(v19||(decide ((f0 n_0.Known:Int)≠nodes_2)))) (fun hg45=>?_) (fun hg45=>?_)
  ·simp only [hg45,qe (g:=28),jk,qw,qb,zo,qa,qp,B0,reduceIte,a9]
   exact hN44 _ _ ⟨hS42,by rw [orT hg45]; simp only [B0,reduceIte,a9],f39,f40⟩
  ·simp only [hg45,qe (g:=28),qv,f39,qt,qb,d8,d9,e8,qs,qn,B0,reduceIte,a9]
   refine qh (v := .int .i64 n_0.Told) rfl ?_
   simp only [hg45,qe (g:=28),qv,f39,qt,qb,d8,d9,e8,qs,qn,B0,reduceIte,a9]
   refine qh (v:=lst qg n_0.Log) rfl ?_
   simp only [hg45,qe (g:=28),qv,zy,qb,jd,zg,B0,reduceIte,a9]
   refine jo rfl (qi qo (qi qo (qi qo zc))) (uc (fun b hb=>decide_eq_true hb) n_0.Told 0 (f0 n_0.Log:Int) _ rfl) ?_
   simp only [hg45,qe (g:=28),qv,j8,qb,ko,qw,zn,qa,qp,B0,reduceIte,a9]
   exact hN44 _ _ ⟨hS42,by rw [orF hg45]; simp only [B0,reduceIte,a9],f39,f40⟩
 rintro fr46 h50 ⟨hS51,f47,f48,f49⟩
 simp only [i0,i6]
 simp only [qa,f47,q9,B0,reduceIte,a9]
 refine qy (t:=((v19||(decide ((f0 n_0.Known:Int)≠nodes_2)))||(!(jc n_0.Told 0 (f0 n_0.Log:Int))))) (fun hc52=>?_) (fun hc52=>?_)
 ·rw [iteT hc52] at hF21
  simp only [qc,qd,qf,qa,qx,B0,reduceIte,a9]
  have he:=qj hF21
  subst he
  simp only [q8,B0,reduceIte,a9]
  exact rfl
 rw [iteF hc52] at hF21
 simp only [zh,q32,qc,qd,f48,qt,qb,d8,d9,e8,qs,qn,B0,reduceIte,a9]
 refine qh (v:=lst cI n_0.Known) rfl ?_
 obtain ⟨v53,hx54,hF55⟩:=qk hF21
 simp only [q9g,f48,f49,zg,B0,reduceIte,a9]
 refine jo rfl (qi zk (qi qq3 zc)) (qgh (fun b hb=>decide_eq_true hb) n_0.Known (g1:=95)
   (caps1:=[.ref [.int .i64 n_0.View.Epoch,.int .i64 n_0.View.Leader,lst cI n_0.View.InStep,lst qg n_0.Log,lst cI n_0.Known,.int .i64 n_0.Told] 0,
   .ref [.int .i64 own_1] 0]) rfl (fun a0=>some (wi a0 n_0 own_1)) (fun W h hW a0 r hr=>qht hW a0 n_0 own_1 r hr) v53 hx54) ?_
 simp only [j8,qb,ko,qf,qa,qx,B0,reduceIte,a9]
 have he:=qj hF55
 subst he
 simp only [q8,B0,reduceIte,a9]
 exact rfl
theorem qju {W:Nat→Bool}{h:Heap} (hW:∀ b,
  (geL h.length) b→W b=true) (s1_0:List Row) (s2_1:List Row) (r:Bool) (hF:qak s1_0 s2_1=some r) : Ret E W 81 [lst qg s1_0,
  lst qg s2_1] h (fun v h'=>cut h.length h' E.sz false 9 v=some (.bool r)):=by
 refine Ret.of (fn:=x81) rfl (Run.of ?_)
 unfold qak at hF
 have zf0:zb [lst qg s1_0,lst qg s2_1] 0=lst qg s1_0:=rfl
 have zf1:zb [lst qg s1_0,lst qg s2_1] 1=lst qg s2_1:=rfl
 generalize zb [lst qg s1_0,lst qg s2_1]=fr0 at zf0 zf1 ⊢
 have hS:Sep h (geL h.length) []:=a0k h
 simp only [x81,qc,qd,qf,qa,q62,zf0,zy,qb,jd,zf1,qz,ya,q9,B0,reduceIte,a9]
 refine qy (t:=(decide ((f0 s1_0:Int)≠(f0 s2_1:Int)))) (fun hc1=>?_) (fun hc1=>?_)
 ·rw [iteT hc1] at hF
  simp only [qc,qd,qf,qa,qx,B0,reduceIte,a9]
  have he:=qj hF
  subst he
  simp only [q8,B0,reduceIte,a9]
  exact rfl
 rw [iteF hc1] at hF
 simp only [zh,q45,qc,qd,zf0,qf,zy,qb,jd,qa,B0,reduceIte,a9]
 obtain ⟨oc4,hX6,hk7⟩:=ka hF
 simp only [q78]
 refine wv (σ:=Unit) s1_0 (fun i2 x3 _=>qau s2_1 i2 x3 ) (fun s fr' h'=>fr' 0=lst qg s1_0∧fr' 1=lst qg s2_1∧Sep h'
   (geL h.length) ([])) hX6 ⟨zf0,zf1,hS⟩ (by simp only [B0,reduceIte,a9]) (by simp only [B0,reduceIte,
   a9]) (fun _ _ _ h=>h) rfl rfl (fun _ _ _ _ h=>h) (fun _ _ _ _ h=>h) (fun _ _ _ _ h=>h) (by decide) ?_ ?_
 ·rintro i2 x3 _ fr16 h17 hx21 ⟨f19,f20,hS18⟩ f22 f23 oc5 hF8 hr9 Q10 hN11 hB15 hK12 hR13 hE14
  unfold qau at hF8
  simp only [q71,qc,qd,f22,qf,qa,qzz,js,f19,zr,ql,yz,B0,reduceIte,a9]
  refine qu (v := .ref (qg x3) 0) (wx hx21 rfl) ?_
  simp only [zt,B0,reduceIte,a9]
  refine qu (v := .agg [.int .i64 x3.Epoch,.int .i64 x3.Value]) rfl ?_
  obtain ⟨x24,hx25,hF26⟩:=qk hF8
  simp only [f20,zr,ql,yz,B0,reduceIte,a9]
  refine qu (v := .ref (qg x24) 0) (kx hx25 rfl) ?_
  simp only [zt,B0,reduceIte,a9]
  refine qu (v := .agg [.int .i64 x24.Epoch,.int .i64 x24.Value]) rfl ?_
  simp only [qpy,B0,reduceIte,a9]
  refine qu (v := .bool (!((x3.Epoch == x24.Epoch)&&((x3.Value == x24.Value)&&true)))) rfl ?_
  simp only [za,q9,B0,reduceIte,a9]
  refine qy (t:=(!((x3.Epoch == x24.Epoch)&&((x3.Value == x24.Value)&&true)))) (fun hc27=>?_) (fun hc27=>?_)
  ·rw [iteT hc27] at hF26
   simp only [qc,qd,qf,qa,qx,B0,reduceIte,a9]
   have e28:=qj hF26
   subst e28
   have ho29:=hr9 _ rfl
   have hk30:=hk7
   rw [ho29] at hk30
   dsimp only [jnO] at hk30
   apply hR13
   have he:=qj hk30
   subst he
   simp only [q8,B0,reduceIte,a9]
   exact rfl
  rw [iteF hc27] at hF26
  simp only [zh,qp,B0,reduceIte,a9]
  have e31:=qj hF26
  exact hN11 _ _ _ e31.symm ⟨f19,f20,hS18⟩ (f22) (f23)
 rintro _ fr33 h34 rfl ⟨f36,f37,hS35⟩
 dsimp only [jnO] at hk7
 unfold qe3 at hk7
 simp only [qc,qd,qf,qa,qx,B0,reduceIte,a9]
 have he:=qj hk7
 subst he
 simp only [q8,B0,reduceIte,a9]
 exact rfl
theorem qgn {W:Nat→Bool}{h:Heap} (hW:∀ b,
  (geL h.length) b→W b=true) (v_0:Cluster) (r:Bool) (hF:qad v_0=some r) : Ret E W 59 [.agg [.int .i64 v_0.Truth.Epoch,.int .i64 v_0.Truth.Leader,
  lst cI v_0.Truth.InStep,lst qq v_0.Nodes,lst qg v_0.Acked]] h (fun v h'=>cut h.length h' E.sz false 9 v=some (.bool r)):=by
 refine Ret.of (fn:=x59) rfl (Run.of ?_)
 unfold qad at hF
 have zf0:zb [.agg [.int .i64 v_0.Truth.Epoch,.int .i64 v_0.Truth.Leader,lst cI v_0.Truth.InStep,lst qq v_0.Nodes,
   lst qg v_0.Acked]] 0 = .agg [.int .i64 v_0.Truth.Epoch,.int .i64 v_0.Truth.Leader,lst cI v_0.Truth.InStep,lst qq v_0.Nodes,lst qg v_0.Acked]:=rfl
 generalize zb [.agg [.int .i64 v_0.Truth.Epoch,.int .i64 v_0.Truth.Leader,lst cI v_0.Truth.InStep,lst qq v_0.Nodes,lst qg v_0.Acked]]=fr0 at zf0 ⊢
 have hS:Sep h (geL h.length) []:=a0k h
 simp only [x59,qc,qd,jp,zf0,B0,reduceIte,a9]
 refine je (cs:=[.int .i64 v_0.Truth.Epoch,.int .i64 v_0.Truth.Leader,lst cI v_0.Truth.InStep,lst qq v_0.Nodes,
   lst qg v_0.Acked]) hS rfl rfl rfl (fun b1 h2 hS3=>?_)
 simp only [qf,qa,B0,reduceIte,a9]
 refine zx hS3 hW (by simp only [B0,reduceIte,a9]) (fun h5 hS6=>?_)
 simp only [zw,q74,qc,qd,qt,qb,d8,d9,e8,qs,qn,B0,reduceIte,a9]
 refine qh (v:=lst qq v_0.Nodes) rfl ?_
 simp only [zy,qb,jd,zg,B0,reduceIte,a9]
 refine jo rfl (qi qo (qi qo (qi qo zc))) (uc (fun b hb=>decide_eq_true hb) (f0 v_0.Nodes:Int) 2 4 _ rfl) ?_
 simp only [j8,qb,ko,qf,B0,reduceIte,a9]
 obtain ⟨v10,hx11,hF12⟩:=qk hF
 refine ji 8 (fun fr' h'=>Sep h' (geL h.length) ([])∧fr' 18 = .bool v10∧fr' 1 = .ref [.int .i64 v_0.Truth.Epoch,.int .i64 v_0.Truth.Leader,lst cI v_0.Truth.InStep,
   lst qq v_0.Nodes,lst qg v_0.Acked] 0) (fun Q7 hN8=>?_) ?_
 ·simp only [f4,i7]
  simp only [qe (g:=10),B0,reduceIte,a9]
  refine ze (t:=(!(jc (f0 v_0.Nodes:Int) 2 4))) (fun hg9=>?_) (fun hg9=>?_)
  ·rw [iteT hg9] at hx11
   simp only [hg9,qe (g:=10),jk,qw,qb,zo,qa,qp,B0,reduceIte,a9]
   have e13:=qj hx11
   exact hN8 _ _ ⟨hS6,by rw [←e13]; simp only [B0,reduceIte,a9],rfl⟩
  ·rw [iteF hg9] at hx11
   simp only [hg9,qe (g:=10),qv,qt,qb,d8,d9,e8,qs,qn,B0,reduceIte,a9]
   refine qh (v := .agg [.int .i64 v_0.Truth.Epoch,.int .i64 v_0.Truth.Leader,lst cI v_0.Truth.InStep]) rfl ?_
   simp only [hg9,qe (g:=10),qv,qt,qb,d8,d9,e8,qs,qn,B0,reduceIte,a9]
   refine qh (v:=lst qq v_0.Nodes) rfl ?_
   obtain ⟨v14,hx15,hF16⟩:=qk hx11
   simp only [hg9,qe (g:=10),qv,zy,qb,jd,zg,B0,reduceIte,a9]
   refine jo rfl (qi (zv (qi qo (qi qo (qi zk zc)))) (qi qo zc)) (qjh (fun b hb=>decide_eq_true hb) v_0.Truth
     (f0 v_0.Nodes:Int) v14 hx15) ?_
   simp only [hg9,qe (g:=10),qv,j8,qb,ko,qw,zn,qa,qp,B0,reduceIte,a9]
   have e17:=qj hF16
   exact hN8 _ _ ⟨hS6,by rw [←e17]; simp only [B0,reduceIte,a9],rfl⟩
 rintro fr18 h21 ⟨hS22,f19,f20⟩
 simp only [i0,i6]
 simp only [f19,qf,B0,reduceIte,a9]
 refine ji 5 (fun fr' h'=>Sep h' (geL h.length) ([])∧fr' 24 = .bool (v10||(decide ((30:Int) <
   (f0 v_0.Acked:Int))))∧fr' 1 = .ref [.int .i64 v_0.Truth.Epoch,.int .i64 v_0.Truth.Leader,lst cI v_0.Truth.InStep,lst qq v_0.Nodes,
   lst qg v_0.Acked] 0) (fun Q23 hN24=>?_) ?_
 ·simp only [f4,i7]
  simp only [qe (g:=19),B0,reduceIte,a9]
  refine ze (t:=v10) (fun hg25=>?_) (fun hg25=>?_)
  ·simp only [hg25,qe (g:=19),jk,qw,qb,zo,qa,qp,B0,reduceIte,a9]
   exact hN24 _ _ ⟨hS22,by rw [orT hg25]; simp only [B0,reduceIte,a9],f20⟩
  ·simp only [hg25,qe (g:=19),qv,f20,qt,qb,d8,d9,e8,qs,qn,B0,reduceIte,a9]
   refine qh (v:=lst qg v_0.Acked) rfl ?_
   simp only [hg25,qe (g:=19),qv,zy,qb,jd,qz,qf6,qw,zn,qa,qp,B0,reduceIte,a9]
   exact hN24 _ _ ⟨hS22,by rw [orF hg25]; simp only [B0,reduceIte,a9],f20⟩
 rintro fr26 h29 ⟨hS30,f27,f28⟩
 simp only [i0,i6]
 simp only [qa,f27,q9,B0,reduceIte,a9]
 refine qy (t:=(v10||(decide ((30:Int)<(f0 v_0.Acked:Int))))) (fun hc31=>?_) (fun hc31=>?_)
 ·rw [iteT hc31] at hF12
  simp only [qc,qd,qf,qa,qx,B0,reduceIte,a9]
  have he:=qj hF12
  subst he
  simp only [q8,B0,reduceIte,a9]
  exact rfl
 rw [iteF hc31] at hF12
 simp only [zh,q6b,qc,qd,f28,qt,qb,d8,d9,e8,qs,qn,B0,reduceIte,a9]
 refine qh (v:=lst qq v_0.Nodes) rfl ?_
 simp only [zy,qb,jd,qf,qa,B0,reduceIte,a9]
 obtain ⟨oc34,hX36,hk37⟩:=ka hF12
 simp only [q48]
 refine wv (σ:=Unit) v_0.Nodes (fun i32 x33 _=>qbj v_0 i32 x33 ) (fun s fr' h'=>fr' 1 = .ref [.int .i64 v_0.Truth.Epoch,.int .i64 v_0.Truth.Leader,
   lst cI v_0.Truth.InStep,lst qq v_0.Nodes,lst qg v_0.Acked] 0∧fr' 26=lst qq v_0.Nodes∧Sep h' (geL h.length) ([])) hX36 ⟨f28,rfl,
   hS30⟩ (by simp only [B0,reduceIte,a9]) (by simp only [B0,reduceIte,
   a9]) (fun _ _ _ h=>h) rfl rfl (fun _ _ _ _ h=>h) (fun _ _ _ _ h=>h) (fun _ _ _ _ h=>h) (by decide) ?_ ?_
 ·rintro i32 x33 _ fr46 h47 hx51 ⟨f49,f50,hS48⟩ f52 f53 oc35 hF38 hr39 Q40 hN41 hB45 hK42 hR43 hE44
  unfold qbj at hF38
  simp only [qzh,qc,qd,f52,qf,f50,jl,B0,reduceIte,a9]
  refine qh (v := .ref (qq x33) 0) (wx hx51 rfl) ?_
  simp only [qn,B0,reduceIte,a9]
  refine qh (v := .agg [.int .i64 x33.View.Epoch,.int .i64 x33.View.Leader,lst cI x33.View.InStep,lst qg x33.Log,lst cI x33.Known,.int .i64 x33.Told]) rfl ?_
  simp only [kd,B0,reduceIte,a9]
  refine jt hS48 (fun b54 h55 hS56=>?_)
  simp only [qf,zp,B0,reduceIte,a9]
  refine zm (us:=[.int .i64 x33.View.Epoch,.int .i64 x33.View.Leader,lst cI x33.View.InStep,lst qg x33.Log,lst cI x33.Known,
    .int .i64 x33.Told]) rfl (cs':=[.int .i64 x33.View.Epoch,.int .i64 x33.View.Leader,lst cI x33.View.InStep,lst qg x33.Log,lst cI x33.Known,
    .int .i64 x33.Told]) hS56 hW rfl rfl (nle rfl) rfl (fun h58 hS59=>?_)
  simp only [qa,B0,reduceIte,a9]
  refine zx hS59 hW (by simp only [B0,reduceIte,a9]) (fun h60 hS61=>?_)
  simp only [zw,q5e,qc,qd,qn,B0,reduceIte,a9]
  refine qh (v := .agg [.int .i64 x33.View.Epoch,.int .i64 x33.View.Leader,lst cI x33.View.InStep,lst qg x33.Log,lst cI x33.Known,.int .i64 x33.Told]) rfl ?_
  simp only [qf,f49,qt,qb,d8,d9,e8,qs,qn,B0,reduceIte,a9]
  refine qh (v:=lst qq v_0.Nodes) rfl ?_
  obtain ⟨v62,hx63,hF64⟩:=qk hF38
  simp only [zy,qb,jd,zg,B0,reduceIte,a9]
  refine jo rfl (qi (zv (qi qo (qi qo (qi zk (qi zk (qi zk (qi qo zc))))))) (qi qo
    (qi qo zc))) (qi5 (fun b hb=>decide_eq_true hb) x33 (i32:Int) (f0 v_0.Nodes:Int) v62 hx63) ?_
  simp only [j8,qb,ko,qf,B0,reduceIte,a9]
  refine ji 8 (fun fr' h'=>Sep h' (geL h.length) ([])∧fr' 48 = .bool ((!v62)||(decide (v_0.Truth.Epoch<x33.View.Epoch)))∧fr' 1 = .ref [.int .i64 v_0.Truth.Epoch,
    .int .i64 v_0.Truth.Leader,lst cI v_0.Truth.InStep,lst qq v_0.Nodes,
    lst qg v_0.Acked] 0∧fr' 3 = .int .i64 (i32:Int)∧fr' 4 = .ref [.int .i64 x33.View.Epoch,.int .i64 x33.View.Leader,lst cI x33.View.InStep,
    lst qg x33.Log,lst cI x33.Known,
    .int .i64 x33.Told] 0∧fr' 26=lst qq v_0.Nodes∧fr' 27 = .int .i64 (f0 v_0.Nodes:Int)∧fr' 28 = .int .i64 (i32:Int)) (fun Q65 hN66=>?_) ?_
  ·simp only [f4,i7]
   simp only [qe (g:=40),B0,reduceIte,a9]
   refine ze (t:=(!v62)) (fun hg67=>?_) (fun hg67=>?_)
   ·simp only [hg67,qe (g:=40),jk,qw,qb,zo,qa,qp,B0,reduceIte,a9]
    exact hN66 _ _ ⟨hS61,by rw [orT hg67]; simp only [B0,reduceIte,a9],f49,rfl,rfl,f50,f53,f52⟩
   ·simp only [hg67,qe (g:=40),qv,qt,qb,d8,d9,e8,qs,qn,B0,reduceIte,a9]
    refine qh (v := .int .i64 x33.View.Epoch) rfl ?_
    simp only [hg67,qe (g:=40),qv,f49,qt,qb,d8,d9,e8,qs,qn,B0,reduceIte,a9]
    refine qh (v := .int .i64 v_0.Truth.Epoch) rfl ?_
    simp only [hg67,qe (g:=40),qv,qz,qb,qf6,qw,zn,qa,qp,B0,reduceIte,a9]
    exact hN66 _ _ ⟨hS61,by rw [orF hg67]; simp only [B0,reduceIte,a9],f49,rfl,rfl,f50,f53,f52⟩
  rintro fr68 h76 ⟨hS77,f69,f70,f71,f72,f73,f74,f75⟩
  simp only [i0,i6]
  simp only [f69,qf,B0,reduceIte,a9]
  refine ji 17 (fun fr' h'=>Sep h' (geL h.length) ([])∧fr' 66 = .bool (((!v62)||(decide (v_0.Truth.Epoch<x33.View.Epoch)))||((decide
    (x33.View.Epoch=v_0.Truth.Epoch))&&(decide (x33.View.Leader≠v_0.Truth.Leader))))∧fr' 1 = .ref [.int .i64 v_0.Truth.Epoch,.int .i64 v_0.Truth.Leader,
    lst cI v_0.Truth.InStep,lst qq v_0.Nodes,lst qg v_0.Acked] 0∧fr' 3 = .int .i64 (i32:Int)∧fr' 4 = .ref [.int .i64 x33.View.Epoch,
    .int .i64 x33.View.Leader,lst cI x33.View.InStep,lst qg x33.Log,lst cI x33.Known,
    .int .i64 x33.Told] 0∧fr' 26=lst qq v_0.Nodes∧fr' 27 = .int .i64 (f0 v_0.Nodes:Int)∧fr' 28 = .int .i64 (i32:Int)) (fun Q78 hN79=>?_) ?_
  ·simp only [f4,i7]
   simp only [qe (g:=49),B0,reduceIte,a9]
   refine ze (t:=((!v62)||(decide (v_0.Truth.Epoch<x33.View.Epoch)))) (fun hg80=>?_) (fun hg80=>?_)
   ·simp only [hg80,qe (g:=49),jk,qe (g:=57),xh,qw,qb,zo,qa,qp,B0,reduceIte,a9]
    exact hN79 _ _ ⟨hS77,by rw [orT hg80]; simp only [B0,reduceIte,a9],f70,f71,f72,f73,f74,f75⟩
   ·simp only [hg80,qe (g:=49),qv,f72,qt,qb,d8,d9,e8,qs,qn,B0,reduceIte,a9]
    refine qh (v := .int .i64 x33.View.Epoch) rfl ?_
    simp only [hg80,qe (g:=49),qv,f70,qt,qb,d8,d9,e8,qs,qn,B0,reduceIte,a9]
    refine qh (v := .int .i64 v_0.Truth.Epoch) rfl ?_
    simp only [hg80,qe (g:=49),qv,qz,qb,k6,qf,B0,reduceIte,a9]
    refine ji 8 (fun fr' h'=>Sep h' (geL h.length) ([])∧fr' 65 = .bool ((decide (x33.View.Epoch=v_0.Truth.Epoch))&&(decide
      (x33.View.Leader≠v_0.Truth.Leader)))∧fr' 1 = .ref [.int .i64 v_0.Truth.Epoch,.int .i64 v_0.Truth.Leader,lst cI v_0.Truth.InStep,lst qq v_0.Nodes,
      lst qg v_0.Acked] 0∧fr' 3 = .int .i64 (i32:Int)∧fr' 4 = .ref [.int .i64 x33.View.Epoch,.int .i64 x33.View.Leader,lst cI x33.View.InStep,
      lst qg x33.Log,lst cI x33.Known,
      .int .i64 x33.Told] 0∧fr' 26=lst qq v_0.Nodes∧fr' 27 = .int .i64 (f0 v_0.Nodes:Int)∧fr' 28 = .int .i64 (i32:Int)∧fr' 49 = .bool
      ((!v62)||(decide (v_0.Truth.Epoch<x33.View.Epoch)))) (fun Q81 hN82=>?_) ?_
    ·simp only [f4,i7]
     simp only [qe (g:=57),B0,reduceIte,a9]
     refine ze (t:=(decide (x33.View.Epoch=v_0.Truth.Epoch))) (fun hg83=>?_) (fun hg83=>?_)
     ·simp only [hg83,qe (g:=57),zi,f72,qt,qb,d8,d9,e8,qs,qn,B0,reduceIte,a9]
      refine qh (v := .int .i64 x33.View.Leader) rfl ?_
      simp only [hg83,qe (g:=57),zi,f70,qt,qb,d8,d9,e8,qs,qn,B0,reduceIte,a9]
      refine qh (v := .int .i64 v_0.Truth.Leader) rfl ?_
      simp only [hg83,qe (g:=57),zi,qz,qb,ya,hg80,qe (g:=49),qv,qw,zo,qa,qp,B0,
        reduceIte,a9]
      exact hN82 _ _ ⟨hS77,by rw [yb hg83]; simp only [B0,reduceIte,a9],f70,f71,f72,f73,f74,f75,by simp only [hg80,B0,reduceIte,a9]⟩
     ·simp only [hg83,qe (g:=57),jj,hg80,qe (g:=49),qv,qw,qb,zn,qa,qp,B0,reduceIte,
       a9]
      exact hN82 _ _ ⟨hS77,by rw [yd hg83]; simp only [B0,reduceIte,a9],f70,f71,f72,f73,f74,f75,by simp only [hg80,B0,reduceIte,a9]⟩
    rintro fr84 h93 ⟨hS94,f85,f86,f87,f88,f89,f90,f91,f92⟩
    simp only [i0,i6]
    simp only [f92,hg80,qw,qb,zn,f85,qa,qp,B0,reduceIte,a9]
    exact hN79 _ _ ⟨hS94,by rw [orF hg80]; simp only [B0,reduceIte,a9],f86,f87,f88,f89,f90,f91⟩
  rintro fr95 h103 ⟨hS104,f96,f97,f98,f99,f100,f101,f102⟩
  simp only [i0,i6]
  simp only [qa,f96,q9,B0,reduceIte,a9]
  refine qy (t:=(((!v62)||(decide (v_0.Truth.Epoch<x33.View.Epoch)))||((decide (x33.View.Epoch=v_0.Truth.Epoch))&&(decide
    (x33.View.Leader≠v_0.Truth.Leader))))) (fun hc105=>?_) (fun hc105=>?_)
  ·rw [iteT hc105] at hF64
   simp only [qc,qd,qf,qa,qx,B0,reduceIte,a9]
   have e106:=qj hF64
   subst e106
   have ho107:=hr39 _ rfl
   have hk108:=hk37
   rw [ho107] at hk108
   dsimp only [jnO] at hk108
   apply hR43
   have he:=qj hk108
   subst he
   simp only [q8,B0,reduceIte,a9]
   exact rfl
  rw [iteF hc105] at hF64
  simp only [zh,q50,qc,js,f97,jb,ql,d8,d9,e8,qs,zt,B0,reduceIte,a9]
  refine qu (v:=lst cI v_0.Truth.InStep) rfl ?_
  obtain ⟨v109,hx110,hF111⟩:=qk hF64
  simp only [f98,zr,ql,ki,B0,reduceIte,a9]
  refine uy rfl (qi zk (qi qo zc)) (qbv (fun b hb=>decide_eq_true hb) v_0.Truth.InStep (i32:Int) v109 hx110) ?_
  simp only [zr,ql,B0,reduceIte,a9]
  simp only [qr (g:=72),B0,reduceIte,a9]
  refine jm (t:=v109) (fun hg112=>?_) (fun hg112=>?_)
  ·rw [iteT hg112] at hF111
   simp only [hg112,qr (g:=72),zl,f99,jb,ql,d8,d9,e8,qs,zt,B0,reduceIte,a9]
   refine qu (v:=lst qg x33.Log) rfl ?_
   simp only [hg112,qr (g:=72),zl,qdy,ql,jd,f97,jb,d8,d9,e8,qs,zt,B0,reduceIte,
     a9]
   refine qu (v:=lst qg v_0.Acked) rfl ?_
   simp only [hg112,qr (g:=72),zl,qdy,ql,jd,k5,kq,zr,B0,reduceIte,a9]
   simp only [qr (g:=80),B0,reduceIte,a9]
   refine jm (t:=(decide ((f0 x33.Log:Int)<(f0 v_0.Acked:Int)))) (fun hg113=>?_) (fun hg113=>?_)
   ·rw [iteT hg113] at hF111
    simp only [hg113,qr (g:=80),wo,hg112,qr (g:=72),zl,jh,ql,zo,za,q9,qj9,qc,
      qd,qf,qa,qx,B0,reduceIte,a9]
    have e114:=qj hF111
    subst e114
    have ho115:=hr39 _ rfl
    have hk116:=hk37
    rw [ho115] at hk116
    dsimp only [jnO] at hk116
    apply hR43
    have he:=qj hk116
    subst he
    simp only [q8,B0,reduceIte,a9]
    exact rfl
   rw [iteF hg113] at hF111
   simp only [hg113,qr (g:=80),zz,f99,jb,ql,d8,d9,e8,qs,zt,B0,reduceIte,a9]
   refine qu (v:=lst qg x33.Log) rfl ?_
   simp only [hg113,qr (g:=80),zz,f97,jb,ql,d8,d9,e8,qs,zt,B0,reduceIte,a9]
   refine qu (v:=lst qg v_0.Acked) rfl ?_
   obtain ⟨l117,hx118,hF119⟩:=qk hF111
   simp only [hg113,qr (g:=80),zz,qdy,ql,jd,qlx,t8,a0m,B0,reduceIte,a9]
   refine qu (qqd hx118 (fun _=>rfl)) ?_
   simp only [hg113,qr (g:=80),zz,f97,jb,ql,d8,d9,e8,qs,zt,B0,reduceIte,a9]
   refine qu (v:=lst qg v_0.Acked) rfl ?_
   obtain ⟨v120,hx121,hF122⟩:=qk hF119
   simp only [hg113,qr (g:=80),zz,ki,B0,reduceIte,a9]
   refine uy rfl (qi zk (qi zk zc)) (qju (fun b hb=>decide_eq_true hb) l117 v_0.Acked v120 hx121) ?_
   simp only [hg113,qr (g:=80),zz,qcx,ql,ko,hg112,qr (g:=72),zl,jh,zn,zo,za,q9,
     B0,reduceIte,a9]
   refine qy (t:=(!v120)) (fun hc123=>?_) (fun hc123=>?_)
   ·rw [iteT hc123] at hF122
    simp only [qc,qd,qf,qa,qx,B0,reduceIte,a9]
    have e124:=qj hF122
    subst e124
    have ho125:=hr39 _ rfl
    have hk126:=hk37
    rw [ho125] at hk126
    dsimp only [jnO] at hk126
    apply hR43
    have he:=qj hk126
    subst he
    simp only [q8,B0,reduceIte,a9]
    exact rfl
   rw [iteF hc123] at hF122
   simp only [zh,qp,B0,reduceIte,a9]
   have e127:=qj hF122
   exact hN41 _ _ _ e127.symm ⟨f97,f100,hS104⟩ (f102) (f101)
  rw [iteF hg112] at hF111
  simp only [hg112,qr (g:=72),ku,qr (g:=80),qiw,jh,ql,zn,za,q9,qb6,zh,qp,B0,
    reduceIte,a9]
  have e128:=qj hF111
  exact hN41 _ _ _ e128.symm ⟨f97,f100,hS104⟩ (f102) (f101)
 rintro _ fr130 h131 rfl ⟨f133,f134,hS132⟩
 dsimp only [jnO] at hk37
 unfold qf7 at hk37
 simp only [qc,qd,qf,qa,qx,B0,reduceIte,a9]
 have he:=qj hk37
 subst he
 simp only [q8,B0,reduceIte,a9]
 exact rfl
theorem qen {W:Nat→Bool}{h:Heap} (hW:∀ b,
  (geL h.length) b→W b=true) (v_0:View) (r:View) (hF:uw v_0=some r) : Ret E W 67 [.agg [.int .i64 v_0.Epoch,.int .i64 v_0.Leader,
  lst cI v_0.InStep]] h (fun v h'=>∃ rv0_2 rc0_2,v = .agg [.int .i64 r.Epoch,.int .i64 r.Leader,
  rv0_2]∧SlF cI 1 3 rv0_2 r.InStep rc0_2∧Sep h' (geL h.length) (rc0_2++([]))):=by
 refine Ret.of (fn:=x67) rfl (Run.of ?_)
 unfold uw at hF
 have zf0:zb [.agg [.int .i64 v_0.Epoch,.int .i64 v_0.Leader,lst cI v_0.InStep]] 0 = .agg [.int .i64 v_0.Epoch,.int .i64 v_0.Leader,lst cI v_0.InStep]:=rfl
 generalize zb [.agg [.int .i64 v_0.Epoch,.int .i64 v_0.Leader,lst cI v_0.InStep]]=fr0 at zf0 ⊢
 have hS:Sep h (geL h.length) []:=a0k h
 simp only [x67,qc,qd,jp,zf0,B0,reduceIte,a9]
 refine je (cs:=[.int .i64 v_0.Epoch,.int .i64 v_0.Leader,lst cI v_0.InStep]) hS rfl rfl rfl (fun b1 h2 hS3=>?_)
 simp only [kd,B0,reduceIte,a9]
 refine jt hS3 (fun b5 h6 hS7=>?_)
 simp only [qa,qzq,qc,qd,ws,evp,B0,reduceIte,a9]
 refine yp (n:=1) (f:=cI) ([] : List Int) hS7 rfl rfl (fun v9 c10 h11 hv12 hS13=>?_)
 simp only [qt,qb,d8,d9,e8,zd,qn,B0,reduceIte,a9]
 refine qh (v:=lst cI v_0.InStep) ((jv (o9 _ _ _ (l9 hS13))).trans rfl) ?_
 simp only [um,B0,reduceIte,a9]
 obtain ⟨l15,hx16,hF17⟩:=qk hF
 refine wm (f:=cI) hv12 hS13 hW (fun _=>rfl) (fun _=>rfl) (u9 (fun _=>rfl)) hx16 (fun v18 c19 h20 hv21 hS22=>?_)
 simp only [qt,qb,d8,d9,e8,zd,zp,B0,reduceIte,a9]
 refine zm (us:=[v18]) (kg (l7 hv21)) (cs':=[.int .i64 v_0.Epoch,.int .i64 v_0.Leader,
   v18]) (l9 hS22) hW rfl (qm (l7 hv21) zq) (nle rfl) rfl (fun h24 hS25=>?_)
 simp only [qa,qc,qd,qn,B0,reduceIte,a9]
 refine qh (v := .agg [.int .i64 v_0.Epoch,.int .i64 v_0.Leader,v18]) ((zu (o9 _ _ _ hS25)).trans rfl) ?_
 simp only [zp,B0,reduceIte,a9]
 refine zm (us:=[.int .i64 v_0.Epoch,.int .i64 v_0.Leader,v18]) rfl (cs':=[.int .i64 v_0.Epoch,.int .i64 v_0.Leader,
   v18]) (l9 hS25) hW rfl (qm rfl (qm rfl (qm (l7 hv21) zq))) (nle rfl) rfl (fun h26 hS27=>?_)
 simp only [qa,qx,B0,reduceIte,a9]
 have he:=qj hF17
 subst he
 refine yo (bb:=b5) (oo:=0) (v := .agg [.int .i64 v_0.Epoch,.int .i64 v_0.Leader,v18]) (by simp only [B0,reduceIte,
   a9]) ((zu (o9 _ _ _ hS27)).trans rfl) ?_
 exact ⟨v18,c19,by first | trivial | rfl,hv21,(o8 ((o8 (hS27))))⟩
theorem qkb {W:Nat→Bool}{h:Heap} (hW:∀ b,
  (geL h.length) b→W b=true) (c_0:Cluster) (r:Cluster) (hF:qai c_0=some r) : Ret E W 90 [.agg [.int .i64 c_0.Truth.Epoch,.int .i64 c_0.Truth.Leader,
  lst cI c_0.Truth.InStep,lst qq c_0.Nodes,lst qg c_0.Acked]] h (fun v h'=>∃ rv0_2 rc0_2 rv0_3 rc0_3 rv0_4 rc0_4,v = .agg [.int .i64 r.Truth.Epoch,
  .int .i64 r.Truth.Leader,rv0_2,rv0_3,
  rv0_4]∧SlF cI 1 3 rv0_2 r.Truth.InStep rc0_2∧SlN Node.R 6 68 rv0_3 r.Nodes rc0_3∧SlF qg 2 92 rv0_4 r.Acked rc0_4∧Sep h' (geL h.length) (rc0_2++(rc0_3 ++
  (rc0_4++([]))))):=by
 refine Ret.of (fn:=x90) rfl (Run.of ?_)
 unfold qai at hF
 have zf0:zb [.agg [.int .i64 c_0.Truth.Epoch,.int .i64 c_0.Truth.Leader,lst cI c_0.Truth.InStep,lst qq c_0.Nodes,
   lst qg c_0.Acked]] 0 = .agg [.int .i64 c_0.Truth.Epoch,.int .i64 c_0.Truth.Leader,lst cI c_0.Truth.InStep,lst qq c_0.Nodes,lst qg c_0.Acked]:=rfl
 generalize zb [.agg [.int .i64 c_0.Truth.Epoch,.int .i64 c_0.Truth.Leader,lst cI c_0.Truth.InStep,lst qq c_0.Nodes,lst qg c_0.Acked]]=fr0 at zf0 ⊢
 have hS:Sep h (geL h.length) []:=a0k h
 simp only [x90,qc,qd,jp,zf0,B0,reduceIte,a9]
 refine je (cs:=[.int .i64 c_0.Truth.Epoch,.int .i64 c_0.Truth.Leader,lst cI c_0.Truth.InStep,lst qq c_0.Nodes,
   lst qg c_0.Acked]) hS rfl rfl rfl (fun b1 h2 hS3=>?_)
 simp only [kd,B0,reduceIte,a9]
 refine jt hS3 (fun b5 h6 hS7=>?_)
 simp only [qa,B0,reduceIte,a9]
 refine zx (n7 hS7) hW (by simp only [B0,reduceIte,a9]) (fun h9 hS10=>?_)
 simp only [zw,q2e,qc,js,qhf,evp,B0,reduceIte,a9]
 refine qd5 (n:=2) (f:=qg) ([] : List Row) hS10 rfl rfl (fun v11 c12 h13 hv14 hS15=>?_)
 simp only [qh4,B0,reduceIte,a9]
 refine qdq hS15 (fun b17 h18 hS19=>?_)
 simp only [jb,ql,d8,d9,e8,qs,zt,B0,reduceIte,a9]
 refine qu (v := .agg [.int .i64 c_0.Truth.Epoch,.int .i64 c_0.Truth.Leader,lst cI c_0.Truth.InStep]) rfl ?_
 obtain ⟨v21,hx22,hF23⟩:=qk hF
 simp only [wg,B0,reduceIte,a9]
 refine qgv rfl hS19 (qi (zv (qi qo (qi qo (qi zk zc)))) zc) (qen (fun b hb=>decide_eq_true hb) c_0.Truth v21 hx22) ?_
 rintro _ h28 ⟨v24,c25,rfl,hv26,hS29⟩
 refine ⟨_,uz (qm rfl (qm rfl (qm (SlF.free1 hv26) zq))),hS29,(jz (SlF.pf hv26 (fun _=>rfl)) yu),fun h30 hS31=>?_⟩
 have hS32:Sep h30 (geL h.length) (c25++([Blk1 b17 [.int .i64 0,.int .i64 0,.nil,.nil,.nil] 28]++(c12++([Blk1 b5 [.int .i64 0,.int .i64 0,.nil,.nil,
   .nil] 28]++([]))))):=by simpa only [l5,r7] using hS31
 simp only [qb2,ql,d8,d9,e8,qs,w9,xy,B0,reduceIte,a9]
 refine qu (v:=lst qg c_0.Acked) rfl ?_
 simp only [qh9,B0,reduceIte,a9]
 obtain ⟨l33,hx34,hF35⟩:=qk hF23
 refine qa6 (f:=qg) hv14 (l9 hS32) hW (fun _=>rfl) (fun _=>rfl) (u9 (fun _=>rfl)) hx34 (fun v36 c37 h38 hv39 hS40=>?_)
 simp only [qi4,evp,B0,reduceIte,a9]
 refine qu (v := .agg [.int .i64 v21.Epoch,.int .i64 v21.Leader,v24,.nil,v36]) (qhn (qfm (us:=[.int .i64 v21.Epoch,.int .i64 v21.Leader,
   v24]) (vs:=[.int .i64 v21.Epoch,.int .i64 v21.Leader,v24,.nil,
   .nil]) rfl rfl (nle rfl) (qm rfl (qm rfl (qm (l7 hv26) zq))) rfl (qfm (us:=[v36]) (vs:=[.int .i64 v21.Epoch,.int .i64 v21.Leader,v24,.nil,
   v36]) (kg (l7 hv39)) rfl (nle rfl) (qm (l7 hv39) zq) rfl qmf))) ?_
 simp only [qcu,B0,reduceIte,a9]
 refine qbb (us:=[.int .i64 v21.Epoch,.int .i64 v21.Leader,v24,.nil,v36]) rfl (cs':=[.int .i64 v21.Epoch,.int .i64 v21.Leader,v24,.nil,
   v36]) (l9 hS40) hW rfl (qm rfl (qm rfl (qm (l7 hv26) (qm rfl (qm (l7 hv39) zq))))) (nle rfl) rfl (fun h42 hS43=>?_)
 simp only [za,q1n,qc,qd,qt,qb,d8,d9,e8,qs,qn,B0,reduceIte,a9]
 refine qh (v:=lst qq c_0.Nodes) rfl ?_
 simp only [zy,qb,jd,qf,qa,B0,reduceIte,a9]
 obtain ⟨oc56,hX58,hk59⟩:=ka hF35
 simp only [q1e]
 refine wv (σ:=Cluster) c_0.Nodes (fun i54 x55 s149=>qat v21 l33 i54 x55 s149) (fun s fr' h'=>∃ v51 c52,
   fr' 2 = .ptr b5 0∧fr' 3 = .ptr b17 0∧fr' 15=lst qq c_0.Nodes∧SlN Node.R 6 68 v51 s.Nodes c52∧Sep h' (geL h.length) ([Blk1 b5 [.int .i64 0,.int .i64 0,
   .nil,.nil,.nil] 28]++([Blk1 b17 [.int .i64 s.Truth.Epoch,.int .i64 s.Truth.Leader,v24,v51,v36] 28]++(c25++(c52++(c37++([]))))))) hX58 ⟨.nil,[],rfl,rfl,
   rfl,SlN.nil,((l6 (l9 (l9 (n7 hS43)))) : Sep _ (geL h.length) ([Blk1 b5 [.int .i64 0,.int .i64 0,.nil,.nil,.nil] 28]++([Blk1 b17 [.int .i64 v21.Epoch,
   .int .i64 v21.Leader,v24,.nil,v36] 28]++(c25++(c37++([]))))))⟩ (by simp only [B0,reduceIte,a9]) (by simp only [B0,reduceIte,
   a9]) (fun _ _ _ h=>h) rfl rfl (fun _ _ _ _ h=>h) (fun _ _ _ _ h=>h) (fun _ _ _ _ h=>h) (by decide) ?_ ?_
 ·rintro i54 x55 s49 fr68 h69 hx74 ⟨v51,c52,f71,f72,f73,hv53,hS70⟩ f75 f76 oc57 hF60 hr61 Q62 hN63 hB67 hK64 hR65 hE66
  unfold qat at hF60
  simp only [q1k,qc,qd,f73,f75,jl,B0,reduceIte,a9]
  refine qh (v := .ref (qq x55) 0) (wx hx74 rfl) ?_
  simp only [qn,B0,reduceIte,a9]
  refine qh (v := .agg [.int .i64 x55.View.Epoch,.int .i64 x55.View.Leader,lst cI x55.View.InStep,lst qg x55.Log,lst cI x55.Known,.int .i64 x55.Told]) rfl ?_
  simp only [kd,B0,reduceIte,a9]
  refine jt hS70 (fun b77 h78 hS79=>?_)
  simp only [zp,B0,reduceIte,a9]
  refine zm (us:=[.int .i64 x55.View.Epoch,.int .i64 x55.View.Leader,lst cI x55.View.InStep,lst qg x55.Log,lst cI x55.Known,
    .int .i64 x55.Told]) rfl (cs':=[.int .i64 x55.View.Epoch,.int .i64 x55.View.Leader,lst cI x55.View.InStep,lst qg x55.Log,lst cI x55.Known,
    .int .i64 x55.Told]) hS79 hW rfl rfl (nle rfl) rfl (fun h81 hS82=>?_)
  simp only [qa,B0,reduceIte,a9]
  refine zx hS82 hW (by simp only [B0,reduceIte,a9]) (fun h83 hS84=>?_)
  simp only [zw,q10,js,jb,ql,d8,d9,e8,qs,zt,B0,reduceIte,a9]
  refine qu (v := .agg [.int .i64 x55.View.Epoch,.int .i64 x55.View.Leader,lst cI x55.View.InStep]) rfl ?_
  simp only [qhf,evp,B0,reduceIte,a9]
  refine qd5 (n:=2) (f:=qg) ([] : List Row) hS84 rfl rfl (fun v85 c86 h87 hv88 hS89=>?_)
  simp only [qb2,ql,d8,d9,e8,qs,w9,xy,B0,reduceIte,a9]
  refine qu (v:=lst qg x55.Log) rfl ?_
  simp only [qhf,evp,B0,reduceIte,a9]
  refine qd5 (n:=1) (f:=cI) ([] : List Int) hS89 rfl rfl (fun v91 c92 h93 hv94 hS95=>?_)
  simp only [qb2,ql,d8,d9,e8,qs,w9,xy,B0,reduceIte,a9]
  refine qu (v:=lst cI x55.Known) rfl ?_
  simp only [qb2,ql,d8,d9,e8,qs,w9,xy,B0,reduceIte,a9]
  refine qu (v := .int .i64 x55.Told) rfl ?_
  simp only [f72,qb2,ql,d8,d9,e8,zd,w9,B0,reduceIte,a9]
  refine qeh (Sep.ltk (n7 hS84)) ?_
  refine qu (v:=v51) ((jv (o9 _ _ _ (l6 hS95))).trans rfl) ?_
  obtain ⟨v97,hx98,hF99⟩:=qk hF60
  simp only [wg,B0,reduceIte,a9]
  refine qgv rfl hS95 (qi (zv (qi qo (qi qo (qi zk zc)))) zc) (qen (fun b hb=>decide_eq_true hb) x55.View v97 hx98) ?_
  rintro _ h104 ⟨v100,c101,rfl,hv102,hS105⟩
  refine ⟨_,uz (qm rfl (qm rfl (qm (SlF.free1 hv102) zq))),hS105,(jz (SlF.pf hv102 (fun _=>rfl)) yu),fun h106 hS107=>?_⟩
  have hS108:Sep h106 (geL h.length) (c101++(c92++(c86++([Blk1 b5 [.int .i64 0,.int .i64 0,.nil,.nil,.nil] 28]++([Blk1 b17 [.int .i64 s49.Truth.Epoch,
    .int .i64 s49.Truth.Leader,v24,v51,v36] 28]++(c25++(c52++(c37++([]))))))))):=by simpa only [l5,r7] using hS107
  simp only [qkl,B0,reduceIte,a9]
  obtain ⟨l109,hx110,hF111⟩:=qk hF99
  have hq112:=nwq (fun z hz=>Sep.dj (l6 (l6 hS108)) qfo (a23 hv88 z hz))
  have hq113:=nwq (fun z hz=>Sep.dj (l6 (n9 hS108)) qfo (a23 hv88 z hz))
  refine qog (qpr (fun z hz=>Sep.dj (l6 (n9 hS108)) qfo (a23 hv88 z hz)) qme) ?_
  refine qa6 (f:=qg) hv88 (l9 hS108) hW (fun _=>rfl) (fun _=>rfl) (u9 (fun _=>rfl)) hx110 (fun v114 c115 h116 hv117 hS118=>?_)
  simp only [qkl,B0,reduceIte,a9]
  obtain ⟨l120,hx121,hF122⟩:=qk hF111
  have hq123:=nwq (fun z hz=>Sep.dj (l6 (l6 hS118)) qfo (a23 hv94 z hz))
  have hq124:=nwq (fun z hz=>Sep.dj (l6 (n9 hS118)) qfo (a23 hv94 z hz))
  refine qog (qpr (fun z hz=>Sep.dj (l6 (n9 hS118)) qfo (a23 hv94 z hz)) qme) ?_
  refine qa6 (f:=cI) hv94 (l9 hS118) hW (fun _=>rfl) (fun _=>rfl) (u9 (fun _=>rfl)) hx121 (fun v125 c126 h127 hv128 hS129=>?_)
  simp only [qi4,evp,B0,reduceIte,a9]
  refine qu (v := .agg [.int .i64 v97.Epoch,.int .i64 v97.Leader,v100,v114,v125,.int .i64 x55.Told]) (qhn (qfm (us:=[.int .i64 v97.Epoch,
    .int .i64 v97.Leader,v100]) (vs:=[.int .i64 v97.Epoch,.int .i64 v97.Leader,v100,.nil,.nil,
    .int .i64 0]) rfl rfl (nle rfl) (qm rfl (qm rfl (qm (l7 hv102) zq))) rfl (qfm (us:=[v114]) (vs:=[.int .i64 v97.Epoch,.int .i64 v97.Leader,v100,
    v114,.nil,.int .i64 0]) (kg (l7 hv117)) rfl (nle rfl) (qm (l7 hv117) zq) rfl (qfm (us:=[v125]) (vs:=[.int .i64 v97.Epoch,
    .int .i64 v97.Leader,v100,v114,v125,
    .int .i64 0]) (kg (l7 hv128)) rfl (nle rfl) (qm (l7 hv128) zq) rfl (qfm (us:=[.int .i64 x55.Told]) (vs:=[.int .i64 v97.Epoch,
    .int .i64 v97.Leader,v100,v114,v125,.int .i64 x55.Told]) rfl rfl (nle rfl) rfl rfl qmf))))) ?_
  simp only [qfq,evp,B0,reduceIte,a9]
  refine qod (R:=Node.R) (n:=6) (cs:=[.int .i64 v97.Epoch,.int .i64 v97.Leader,v100,v114,v125,
    .int .i64 x55.Told]) (os:=c101++(c115++(c126))) (Sep.bi3 (c1:=c101) (c2:=c115) (c3:=c126) (l9 (n7 hS129))) (qfm (us:=[.int .i64 v97.Epoch,
    .int .i64 v97.Leader,v100,v114,v125,.int .i64 x55.Told]) (vs:=[.int .i64 v97.Epoch,.int .i64 v97.Leader,v100,v114,v125,
    .int .i64 x55.Told]) rfl rfl (nle rfl) (qm rfl (qm rfl (qm (l7 hv102) (qm (l7 hv117) (qm (l7 hv128) (qm rfl zq)))))) rfl qmf)
    (Node.RI (x:=(Node.mk v97 l109 l120 x55.Told)) hv102 hv117 hv128) rfl (fun v131 c132 h133 hv134 hS135=>?_)
  simp only [qh9,B0,reduceIte,a9]
  obtain ⟨l137,hx138,hF139⟩:=qk hF122
  refine qsc (R:=Node.R) (c:=c52) hv53 hv134 (n9 hS135) hW Node.RO.len Node.RO.one hx138 (fun v140 c141 h142 hv143 hS144=>?_)
  simp only [f72,jb,ql,d8,d9,e8,zd,qcu,B0,reduceIte,a9]
  refine qbb (us:=[v140]) (kg (a09 hv143)) (cs':=[.int .i64 s49.Truth.Epoch,.int .i64 s49.Truth.Leader,v24,v140,
    v36]) (l9 hS144) hW rfl (qm (a09 hv143) zq) (nle rfl) rfl (fun h146 hS147=>?_)
  simp only [za,qp,B0,reduceIte,a9]
  have e148:=qj hF139
  exact hN63 _ _ _ e148.symm ⟨v140,c141,f71,f72,f73,hv143,(n9 (l6 (n9 (l9 (n9 hS147)))))⟩ (f75) (f76)
 rintro s150 fr155 h156 rfl ⟨v152,c153,f158,f159,f160,hv154,hS157⟩
 dsimp only [jnO] at hk59
 unfold qe7 at hk59
 simp only [qc,qd,f159,qn,B0,reduceIte,a9]
 refine qh (v := .agg [.int .i64 s150.Truth.Epoch,.int .i64 s150.Truth.Leader,v24,v152,v36]) ((zu (o9 _ _ _ (n7 hS157))).trans rfl) ?_
 simp only [f158,zp,B0,reduceIte,a9]
 refine zm (us:=[.int .i64 s150.Truth.Epoch,.int .i64 s150.Truth.Leader,v24,v152,v36]) rfl (cs':=[.int .i64 s150.Truth.Epoch,.int .i64 s150.Truth.Leader,v24,
   v152,v36]) hS157 hW rfl (qm rfl (qm rfl (qm (l7 hv26) (qm (a09 hv154) (qm (l7 hv39) zq))))) (nle rfl) rfl (fun h161 hS162=>?_)
 simp only [qa,qx,B0,reduceIte,a9]
 have he:=qj hk59
 subst he
 refine yo (bb:=b5) (oo:=0) (v := .agg [.int .i64 s150.Truth.Epoch,.int .i64 s150.Truth.Leader,v24,v152,v36]) (by simp only [f158,B0,reduceIte,
   a9]) ((zu (o9 _ _ _ hS162)).trans rfl) ?_
 exact ⟨v24,c25,v152,c153,v36,c37,by first | trivial | rfl,hv26,hv154,hv39,(l9 (l9 (l9 (o8 ((o8 (hS162)))))))⟩
theorem qj0 {W:Nat→Bool}{h:Heap} (hW:∀ b,
  (geL h.length) b→W b=true) (s1_0:List Int) (s2_1:List Int) (r:Bool) (hF:qae s1_0 s2_1=some r) : Ret E W 83 [lst cI s1_0,
  lst cI s2_1] h (fun v h'=>cut h.length h' E.sz false 9 v=some (.bool r)):=by
 refine Ret.of (fn:=x83) rfl (Run.of ?_)
 unfold qae at hF
 have zf0:zb [lst cI s1_0,lst cI s2_1] 0=lst cI s1_0:=rfl
 have zf1:zb [lst cI s1_0,lst cI s2_1] 1=lst cI s2_1:=rfl
 generalize zb [lst cI s1_0,lst cI s2_1]=fr0 at zf0 zf1 ⊢
 have hS:Sep h (geL h.length) []:=a0k h
 simp only [x83,qc,qd,qf,qa,q4t,zf0,zy,qb,jd,zf1,qz,ya,q9,B0,reduceIte,a9]
 refine qy (t:=(decide ((f0 s1_0:Int)≠(f0 s2_1:Int)))) (fun hc1=>?_) (fun hc1=>?_)
 ·rw [iteT hc1] at hF
  simp only [qc,qd,qf,qa,qx,B0,reduceIte,a9]
  have he:=qj hF
  subst he
  simp only [q8,B0,reduceIte,a9]
  exact rfl
 rw [iteF hc1] at hF
 simp only [zh,q2m,qc,qd,zf0,qf,zy,qb,jd,qa,B0,reduceIte,a9]
 obtain ⟨oc4,hX6,hk7⟩:=ka hF
 simp only [q0p]
 refine wv (σ:=Unit) s1_0 (fun i2 x3 _=>qav s2_1 i2 x3 ) (fun s fr' h'=>fr' 0=lst cI s1_0∧fr' 1=lst cI s2_1∧Sep h' (geL h.length)
   ([])) hX6 ⟨zf0,zf1,hS⟩ (by simp only [B0,reduceIte,a9]) (by simp only [B0,reduceIte,
   a9]) (fun _ _ _ h=>h) rfl rfl (fun _ _ _ _ h=>h) (fun _ _ _ _ h=>h) (fun _ _ _ _ h=>h) (by decide) ?_ ?_
 ·rintro i2 x3 _ fr16 h17 hx21 ⟨f19,f20,hS18⟩ f22 f23 oc5 hF8 hr9 Q10 hN11 hB15 hK12 hR13 hE14
  unfold qav at hF8
  simp only [q7i,qc,qd,f22,qf,qa,q2g,js,f19,zr,ql,yz,B0,reduceIte,a9]
  refine qu (v := .ref (cI x3) 0) (wx hx21 rfl) ?_
  simp only [zt,B0,reduceIte,a9]
  refine qu (v := .int .i64 x3) rfl ?_
  obtain ⟨x24,hx25,hF26⟩:=qk hF8
  simp only [f20,zr,ql,yz,B0,reduceIte,a9]
  refine qu (v := .ref (cI x24) 0) (kx hx25 rfl) ?_
  simp only [zt,B0,reduceIte,a9]
  refine qu (v := .int .i64 x24) rfl ?_
  simp only [k5,ql,ya,za,q9,B0,reduceIte,a9]
  refine qy (t:=(decide (x3≠x24))) (fun hc27=>?_) (fun hc27=>?_)
  ·rw [iteT hc27] at hF26
   simp only [qc,qd,qf,qa,qx,B0,reduceIte,a9]
   have e28:=qj hF26
   subst e28
   have ho29:=hr9 _ rfl
   have hk30:=hk7
   rw [ho29] at hk30
   dsimp only [jnO] at hk30
   apply hR13
   have he:=qj hk30
   subst he
   simp only [q8,B0,reduceIte,a9]
   exact rfl
  rw [iteF hc27] at hF26
  simp only [zh,qp,B0,reduceIte,a9]
  have e31:=qj hF26
  exact hN11 _ _ _ e31.symm ⟨f19,f20,hS18⟩ (f22) (f23)
 rintro _ fr33 h34 rfl ⟨f36,f37,hS35⟩
 dsimp only [jnO] at hk7
 unfold qe6 at hk7
 simp only [qc,qd,qf,qa,qx,B0,reduceIte,a9]
 have he:=qj hk7
 subst he
 simp only [q8,B0,reduceIte,a9]
 exact rfl
end Go.Proofs.Ytohofoampalhoaa.X
namespace Go.Proofs.Ytohofoampalhoaa.X
open Go
theorem qlp {W:Nat→Bool}{h:Heap} (hW:∀ b,
  (geL h.length) b→W b=true) (a_0:View) (b_1:View) (r:Bool) (hF:qb9 a_0 b_1=some r) : Ret E W 62 [.agg [.int .i64 a_0.Epoch,.int .i64 a_0.Leader,
  lst cI a_0.InStep],.agg [.int .i64 b_1.Epoch,.int .i64 b_1.Leader,lst cI b_1.InStep]] h (fun v h'=>cut h.length h' E.sz false 9 v=some (.bool r)):=by
 refine Ret.of (fn:=x62) rfl (Run.of ?_)
 unfold qb9 at hF
 have zf0:zb [.agg [.int .i64 a_0.Epoch,.int .i64 a_0.Leader,lst cI a_0.InStep],.agg [.int .i64 b_1.Epoch,.int .i64 b_1.Leader,
   lst cI b_1.InStep]] 0 = .agg [.int .i64 a_0.Epoch,.int .i64 a_0.Leader,lst cI a_0.InStep]:=rfl
 have zf1:zb [.agg [.int .i64 a_0.Epoch,.int .i64 a_0.Leader,lst cI a_0.InStep],.agg [.int .i64 b_1.Epoch,.int .i64 b_1.Leader,
   lst cI b_1.InStep]] 1 = .agg [.int .i64 b_1.Epoch,.int .i64 b_1.Leader,lst cI b_1.InStep]:=rfl
 generalize zb [.agg [.int .i64 a_0.Epoch,.int .i64 a_0.Leader,lst cI a_0.InStep],.agg [.int .i64 b_1.Epoch,.int .i64 b_1.Leader,lst cI b_1.InStep]]=fr0 at zf0 zf1 ⊢
 have hS:Sep h (geL h.length) []:=a0k h
 simp only [x62,qc,qd,jp,zf0,B0,reduceIte,a9]
 refine je (cs:=[.int .i64 a_0.Epoch,.int .i64 a_0.Leader,lst cI a_0.InStep]) hS rfl rfl rfl (fun b1 h2 hS3=>?_)
 simp only [jp,zf1,B0,reduceIte,a9]
 refine je (cs:=[.int .i64 b_1.Epoch,.int .i64 b_1.Leader,lst cI b_1.InStep]) hS3 rfl rfl rfl (fun b5 h6 hS7=>?_)
 simp only [qf,qa,B0,reduceIte,a9]
 refine zx (n7 hS7) hW (by simp only [B0,reduceIte,a9]) (fun h9 hS10=>?_)
 refine zx hS10 hW (by simp only [B0,reduceIte,a9]) (fun h11 hS12=>?_)
 simp only [zw,q5n,qc,qd,qt,qb,d8,d9,e8,qs,qn,B0,reduceIte,a9]
 refine qh (v := .int .i64 a_0.Epoch) rfl ?_
 simp only [qt,qb,d8,d9,e8,qs,qn,B0,reduceIte,a9]
 refine qh (v := .int .i64 b_1.Epoch) rfl ?_
 simp only [qz,qb,k6,qf,B0,reduceIte,a9]
 refine ji 6 (fun fr' h'=>Sep h' (geL h.length) ([])∧fr' 16 = .bool ((decide (a_0.Epoch=b_1.Epoch))&&(decide
   (a_0.Leader=b_1.Leader)))∧fr' 2 = .ref [.int .i64 a_0.Epoch,.int .i64 a_0.Leader,lst cI a_0.InStep] 0∧fr' 3 = .ref [.int .i64 b_1.Epoch,.int .i64 b_1.Leader,
   lst cI b_1.InStep] 0) (fun Q13 hN14=>?_) ?_
 ·simp only [f4,i7]
  simp only [qe (g:=10),B0,reduceIte,a9]
  refine ze (t:=(decide (a_0.Epoch=b_1.Epoch))) (fun hg15=>?_) (fun hg15=>?_)
  ·simp only [hg15,qe (g:=10),zi,qt,qb,d8,d9,e8,qs,qn,B0,reduceIte,a9]
   refine qh (v := .int .i64 a_0.Leader) rfl ?_
   simp only [hg15,qe (g:=10),zi,qt,qb,d8,d9,e8,qs,qn,B0,reduceIte,a9]
   refine qh (v := .int .i64 b_1.Leader) rfl ?_
   simp only [hg15,qe (g:=10),zi,qz,qb,k6,qw,zo,qa,qp,B0,reduceIte,a9]
   exact hN14 _ _ ⟨hS12,by rw [yb hg15]; simp only [B0,reduceIte,a9],rfl,rfl⟩
  ·simp only [hg15,qe (g:=10),jj,qw,qb,zn,qa,qp,B0,reduceIte,a9]
   exact hN14 _ _ ⟨hS12,by rw [yd hg15]; simp only [B0,reduceIte,a9],rfl,rfl⟩
 rintro fr16 h20 ⟨hS21,f17,f18,f19⟩
 simp only [i0,i6]
 simp only [f17,qf,B0,reduceIte,a9]
 obtain ⟨v25,hx26,hF27⟩:=qk hF
 refine ji 6 (fun fr' h'=>Sep h' (geL h.length) ([])∧fr' 23 = .bool v25) (fun Q22 hN23=>?_) ?_
 ·simp only [f4,i7]
  simp only [qe (g:=17),B0,reduceIte,a9]
  refine ze (t:=((decide (a_0.Epoch=b_1.Epoch))&&(decide (a_0.Leader=b_1.Leader)))) (fun hg24=>?_) (fun hg24=>?_)
  ·rw [iteT hg24] at hx26
   simp only [hg24,qe (g:=17),zi,f18,qt,qb,d8,d9,e8,qs,qn,B0,reduceIte,a9]
   refine qh (v:=lst cI a_0.InStep) rfl ?_
   simp only [hg24,qe (g:=17),zi,f19,qt,qb,d8,d9,e8,qs,qn,B0,reduceIte,a9]
   refine qh (v:=lst cI b_1.InStep) rfl ?_
   obtain ⟨v28,hx29,hF30⟩:=qk hx26
   simp only [hg24,qe (g:=17),zi,zg,B0,reduceIte,a9]
   refine jo rfl (qi zk (qi zk zc)) (qj0 (fun b hb=>decide_eq_true hb) a_0.InStep b_1.InStep v28 hx29) ?_
   simp only [hg24,qw,qb,zo,qa,qp,B0,reduceIte,a9]
   have e31:=qj hF30
   exact hN23 _ _ ⟨hS21,by rw [←e31]; simp only [B0,reduceIte,a9]⟩
  ·rw [iteF hg24] at hx26
   simp only [hg24,qe (g:=17),jj,qw,qb,zn,qa,qp,B0,reduceIte,a9]
   have e32:=qj hx26
   exact hN23 _ _ ⟨hS21,by rw [←e32]; simp only [B0,reduceIte,a9]⟩
 rintro fr33 h35 ⟨hS36,f34⟩
 simp only [i0,i6]
 simp only [f34,qf,qa,qx,B0,reduceIte,a9]
 have he:=qj hF27
 subst he
 simp only [q8,B0,reduceIte,a9]
 exact rfl
theorem qit {W:Nat→Bool}{h:Heap}{lo:Nat→Prop}{S0:List Obj} (hW:∀ b,
  lo b→W b=true) (k:Nat) (pb0:Nat) (v_0:Cluster) (pv0_2:XV) (pc0_2:List Obj) (ph0_2:SlF cI 1 3 pv0_2 v_0.Truth.InStep pc0_2) (pv0_3:XV) (pc0_3:List Obj)
  (ph0_3:SlN Node.R 6 68 pv0_3 v_0.Nodes pc0_3) (pv0_4:XV) (pc0_4:List Obj) (ph0_4:SlF qg 2 92 pv0_4 v_0.Acked pc0_4) (v_1:ClusterStep) (r:Bool × Cluster)
  (hF:uj k v_0 v_1=some r) (hS:Sep h lo ([Blk1 pb0 [.int .i64 v_0.Truth.Epoch,.int .i64 v_0.Truth.Leader,pv0_2,pv0_3,
  pv0_4] 28]++(pc0_2++(pc0_3++(pc0_4++(S0)))))) : Ret E W 99 [.ptr pb0 0,.agg [.int .i64 v_1.Kind,.int .i64 v_1.K,.int .i64 v_1.To,
  .int .i64 v_1.N]] h (fun v h'=>∃ ic0_2 ic0_3 ic0_4,
  v = .bool r.1∧SlF cI 1 3 pv0_2 r.2.Truth.InStep ic0_2∧SlN Node.R 6 68 pv0_3 r.2.Nodes ic0_3∧SlF qg 2 92 pv0_4 r.2.Acked ic0_4∧Sep h' lo
  ([Blk1 pb0 [.int .i64 r.2.Truth.Epoch,.int .i64 r.2.Truth.Leader,pv0_2,pv0_3,pv0_4] 28]++(ic0_2++(ic0_3++(ic0_4++(S0)))))):=by
 refine Ret.of (fn:=x99) rfl (Run.of ?_)
 unfold uj at hF
 have zf0:zb [.ptr pb0 0,.agg [.int .i64 v_1.Kind,.int .i64 v_1.K,.int .i64 v_1.To,.int .i64 v_1.N]] 0 = .ptr pb0 0:=rfl
 have zf1:zb [.ptr pb0 0,.agg [.int .i64 v_1.Kind,.int .i64 v_1.K,.int .i64 v_1.To,.int .i64 v_1.N]] 1 = .agg [.int .i64 v_1.Kind,.int .i64 v_1.K,.int .i64 v_1.To,
   .int .i64 v_1.N]:=rfl
 generalize zb [.ptr pb0 0,.agg [.int .i64 v_1.Kind,.int .i64 v_1.K,.int .i64 v_1.To,.int .i64 v_1.N]]=fr0 at zf0 zf1 ⊢
 simp only [x99,qc,qd,jp,zf1,B0,reduceIte,a9]
 refine je (cs:=[.int .i64 v_1.Kind,.int .i64 v_1.K,.int .i64 v_1.To,.int .i64 v_1.N]) hS rfl rfl rfl (fun b1 h2 hS3=>?_)
 simp only [qf,qa,B0,reduceIte,a9]
 refine zx hS3 hW (by simp only [B0,reduceIte,a9]) (fun h5 hS6=>?_)
 simp only [zw,qs9,qc,js,zf0,zr,ql,kp,z9,jb,d8,d9,e8,zd,zt,B0,reduceIte,
   a9]
 refine qu (v:=pv0_3) ((jv (o9 _ _ _ hS6)).trans rfl) ?_
 simp only [jb,ql,d8,d9,e8,qs,zt,B0,reduceIte,a9]
 refine qu (v := .int .i64 v_1.K) rfl ?_
 obtain ⟨x7,hx8,hF9⟩:=qk hF
 simp only [yz,B0,reduceIte,a9]
 obtain ⟨b10,hb11⟩:=SlN.isrow ph0_3 (j9 hx8)
 refine qu (SlN.ia ph0_3 hb11 hx8) ?_
 simp only [zf0,zr,ql,kp,z9,jb,d8,d9,e8,zd,zt,B0,reduceIte,a9]
 refine qu (v:=pv0_3) ((jv (o9 _ _ _ hS6)).trans rfl) ?_
 simp only [jb,ql,d8,d9,e8,qs,zt,B0,reduceIte,a9]
 refine qu (v := .int .i64 v_1.To) rfl ?_
 obtain ⟨x12,hx13,hF14⟩:=qk hF9
 simp only [yz,B0,reduceIte,a9]
 refine qu (SlN.ia ph0_3 hb11 hx13) ?_
 simp only [zr,ql,za,qza,qc,js,jb,d8,d9,e8,qs,zt,B0,reduceIte,a9]
 refine qu (v := .int .i64 v_1.K) rfl ?_
 simp only [jb,ql,d8,d9,e8,qs,zt,B0,reduceIte,a9]
 refine qu (v := .int .i64 v_1.To) rfl ?_
 simp only [k5,ql,k6,zr,B0,reduceIte,a9]
 refine we 9 (fun fr' h'=>Sep h' lo (pc0_3++([Blk1 pb0 [.int .i64 v_0.Truth.Epoch,.int .i64 v_0.Truth.Leader,pv0_2,pv0_3,
   pv0_4] 28]++(pc0_2++(pc0_4++(S0)))))∧fr' 37 = .bool ((decide (v_1.K=v_1.To))||(decide (x12.View.Leader≠v_1.To)))∧fr' 3 = .ref [.int .i64 v_1.Kind,
   .int .i64 v_1.K,.int .i64 v_1.To,.int .i64 v_1.N] 0∧fr' 5 = .ptr b10 (v_1.K.toNat*6)∧fr' 6 = .ptr b10 (v_1.To.toNat*6)) rfl (fun Q15 hN16=>?_) ?_
 ·simp only [f4,i7]
  simp only [qr (g:=28),B0,reduceIte,a9]
  refine jm (t:=(decide (v_1.K=v_1.To))) (fun hg17=>?_) (fun hg17=>?_)
  ·simp only [hg17,qr (g:=28),wo,jh,ql,zo,za,qp,B0,reduceIte,a9]
   exact hN16 _ _ ⟨(l6 (l9 (l9 (l6 hS6)))),by rw [orT hg17]; simp only [B0,reduceIte,a9],rfl,rfl,rfl⟩
  ·obtain ⟨c18,cs19,os20,hv21,hR22,hS23⟩:=a1t (a14 ph0_3 hb11 Node.RO.len) hx13 z8 Node.RO.len (l9 hS6)
   obtain ⟨v25,c26,v29,c30,v33,c34,hv27,hv31,hv35,rfl,rfl⟩:=hR22
   have hS24:=a1v hS23
   simp only [hg17,qr (g:=28),zz,zr,ql,kp,z9,jb,d8,d9,e8,zd,zt,B0,reduceIte,
     a9]
   refine qu (v := .int .i64 x12.View.Leader) ((a1u (o:=1) hv21 rfl hx13 hS24 (nle rfl)).trans rfl) ?_
   simp only [hg17,qr (g:=28),zz,jb,ql,d8,d9,e8,qs,zt,B0,reduceIte,a9]
   refine qu (v := .int .i64 v_1.To) rfl ?_
   simp only [hg17,qr (g:=28),zz,k5,ql,ya,jh,zn,za,qp,B0,reduceIte,a9]
   exact hN16 _ _ ⟨(l6 (l9 (l9 (l6 hS6)))),by rw [orF hg17]; simp only [B0,reduceIte,a9],rfl,rfl,rfl⟩
 rintro fr37 h42 ⟨hS43,f38,f39,f40,f41⟩
 simp only [i0,i6]
 simp only [f38,zr,ql,B0,reduceIte,a9]
 refine we 9 (fun fr' h'=>Sep h' lo (pc0_3++([Blk1 pb0 [.int .i64 v_0.Truth.Epoch,.int .i64 v_0.Truth.Leader,pv0_2,pv0_3,
   pv0_4] 28]++(pc0_2++(pc0_4++(S0)))))∧fr' 47 = .bool (((decide (v_1.K=v_1.To))||(decide (x12.View.Leader≠v_1.To)))||(decide
   (x7.View.Leader=v_1.K)))∧fr' 3 = .ref [.int .i64 v_1.Kind,.int .i64 v_1.K,.int .i64 v_1.To,
   .int .i64 v_1.N] 0∧fr' 5 = .ptr b10 (v_1.K.toNat*6)∧fr' 6 = .ptr b10 (v_1.To.toNat*6)) rfl (fun Q44 hN45=>?_) ?_
 ·simp only [f4,i7]
  simp only [qr (g:=38),B0,reduceIte,a9]
  refine jm (t:=((decide (v_1.K=v_1.To))||(decide (x12.View.Leader≠v_1.To)))) (fun hg46=>?_) (fun hg46=>?_)
  ·simp only [hg46,qr (g:=38),wo,jh,ql,zo,za,qp,B0,reduceIte,a9]
   exact hN45 _ _ ⟨(l6 (l6 (l6 (l6 hS43)))),by rw [orT hg46]; simp only [B0,reduceIte,a9],f39,f40,f41⟩
  ·obtain ⟨c47,cs48,os49,hv50,hR51,hS52⟩:=a1t (a14 ph0_3 hb11 Node.RO.len) hx8 z8 Node.RO.len hS43
   obtain ⟨v54,c55,v58,c59,v62,c63,hv56,hv60,hv64,rfl,rfl⟩:=hR51
   have hS53:=a1v hS52
   simp only [hg46,qr (g:=38),zz,f40,zr,ql,kp,z9,jb,d8,d9,e8,zd,zt,B0,
     reduceIte,a9]
   refine qu (v := .int .i64 x7.View.Leader) ((a1u (o:=1) hv50 rfl hx8 hS53 (nle rfl)).trans rfl) ?_
   simp only [hg46,qr (g:=38),zz,f39,jb,ql,d8,d9,e8,qs,zt,B0,reduceIte,a9]
   refine qu (v := .int .i64 v_1.K) rfl ?_
   simp only [hg46,qr (g:=38),zz,k5,ql,k6,jh,zn,za,qp,B0,reduceIte,a9]
   exact hN45 _ _ ⟨(l6 (l6 (l6 (l6 hS43)))),by rw [orF hg46]; simp only [B0,reduceIte,a9],f39,f40,f41⟩
 rintro fr66 h71 ⟨hS72,f67,f68,f69,f70⟩
 simp only [i0,i6]
 simp only [f67,zr,ql,B0,reduceIte,a9]
 refine we 12 (fun fr' h'=>Sep h' lo (pc0_3++([Blk1 pb0 [.int .i64 v_0.Truth.Epoch,.int .i64 v_0.Truth.Leader,pv0_2,pv0_3,
   pv0_4] 28]++(pc0_2++(pc0_4++(S0)))))∧fr' 60 = .bool ((((decide (v_1.K=v_1.To))||(decide (x12.View.Leader≠v_1.To)))||(decide (x7.View.Leader=v_1.K))) ||
   (decide (x7.View.Epoch≠x12.View.Epoch)))∧fr' 3 = .ref [.int .i64 v_1.Kind,.int .i64 v_1.K,.int .i64 v_1.To,
   .int .i64 v_1.N] 0∧fr' 5 = .ptr b10 (v_1.K.toNat*6)∧fr' 6 = .ptr b10 (v_1.To.toNat*6)) rfl (fun Q73 hN74=>?_) ?_
 ·simp only [f4,i7]
  simp only [qr (g:=48),B0,reduceIte,a9]
  refine jm (t:=(((decide (v_1.K=v_1.To))||(decide (x12.View.Leader≠v_1.To)))||(decide (x7.View.Leader=v_1.K)))) (fun hg75=>?_) (fun hg75=>?_)
  ·simp only [hg75,qr (g:=48),wo,jh,ql,zo,za,qp,B0,reduceIte,a9]
   exact hN74 _ _ ⟨(l6 (l6 (l6 (l6 hS72)))),by rw [orT hg75]; simp only [B0,reduceIte,a9],f68,f69,f70⟩
  ·obtain ⟨c76,cs77,os78,hv79,hR80,hS81⟩:=a1t (a14 ph0_3 hb11 Node.RO.len) hx8 z8 Node.RO.len hS72
   obtain ⟨v83,c84,v87,c88,v91,c92,hv85,hv89,hv93,rfl,rfl⟩:=hR80
   have hS82:=a1v hS81
   simp only [hg75,qr (g:=48),zz,f69,zr,ql,kp,z9,jb,d8,d9,e8,zd,zt,B0,
     reduceIte,a9]
   refine qu (v := .int .i64 x7.View.Epoch) ((a1u (o:=0) hv79 rfl hx8 hS82 (nle rfl)).trans rfl) ?_
   obtain ⟨c95,hv96,hS97⟩:=a0z (c:=c76) (os:=c84++(c88++(c92))) hv79 rfl hx8 z8 (Node.RI (x:=x7) hv85 hv89 hv93) (a0q (c1:=c84) (c2:=c88)
     (c3:=c92) (l6 (l6 (l6 (l6 hS82)))))
   have hv98:=a0s hv96
   obtain ⟨c99,cs100,os101,hv102,hR103,hS104⟩:=a1t (a14 hv98 hb11 Node.RO.len) hx13 z8 Node.RO.len hS97
   obtain ⟨v106,c107,v110,c111,v114,c115,hv108,hv112,hv116,rfl,rfl⟩:=hR103
   have hS105:=a1v hS104
   simp only [hg75,qr (g:=48),zz,f70,zr,ql,kp,z9,jb,d8,d9,e8,zd,zt,B0,
     reduceIte,a9]
   refine qu (v := .int .i64 x12.View.Epoch) ((a1u (o:=0) hv102 rfl hx13 hS105 (nle rfl)).trans rfl) ?_
   simp only [hg75,qr (g:=48),zz,k5,ql,ya,jh,zn,za,qp,B0,reduceIte,a9]
   exact hN74 _ _ ⟨(l6 (l6 (l6 (l6 hS72)))),by rw [orF hg75]; simp only [B0,reduceIte,a9],f68,f69,f70⟩
 rintro fr118 h123 ⟨hS124,f119,f120,f121,f122⟩
 simp only [i0,i6]
 simp only [f119,zr,ql,B0,reduceIte,a9]
 simp only [qr (g:=61),B0,reduceIte,a9]
 refine jm (t:=((((decide (v_1.K=v_1.To))||(decide (x12.View.Leader≠v_1.To)))||(decide (x7.View.Leader=v_1.K)))||(decide
   (x7.View.Epoch≠x12.View.Epoch)))) (fun hg125=>?_) (fun hg125=>?_)
 ·rw [iteT hg125] at hF14
  simp only [hg125,qr (g:=61),wo,jh,ql,zo,za,q9,qj9,qc,qd,qf,qa,qx,B0,
    reduceIte,a9]
  have he:=qj hF14
  subst he
  simp only [q8,B0,reduceIte,a9]
  exact ⟨pc0_2,pc0_3,pc0_4,by first | trivial | rfl,ph0_2,ph0_3,ph0_4,(l6 (l6 (n7 (l6 hS124))))⟩
 rw [iteF hg125] at hF14
 simp only [hg125,qr (g:=61),zz,f120,jb,ql,d8,d9,e8,qs,zt,B0,reduceIte,a9]
 refine qu (v := .int .i64 v_1.N) rfl ?_
 simp only [hg125,qr (g:=61),zz,ki,B0,reduceIte,a9]
 refine uy rfl (qi qo (qi qo (qi qo zc))) (uc (fun b hb=>decide_eq_true hb) v_1.N 0 30 _ rfl) ?_
 simp only [hg125,qr (g:=61),zz,qcx,ql,ko,jh,zn,za,q9,B0,reduceIte,a9]
 refine qy (t:=(!(jc v_1.N 0 30))) (fun hc126=>?_) (fun hc126=>?_)
 ·rw [iteT hc126] at hF14
  simp only [qc,qd,qf,qa,qx,B0,reduceIte,a9]
  have he:=qj hF14
  subst he
  simp only [q8,B0,reduceIte,a9]
  exact ⟨pc0_2,pc0_3,pc0_4,by first | trivial | rfl,ph0_2,ph0_3,ph0_4,(l6 (l6 (n7 (l6 hS124))))⟩
 rw [iteF hc126] at hF14
 simp only [zh,q60,qc,qd,qf,qa,q5j,B0,reduceIte,a9]
 obtain ⟨oc137,hX139,hk140⟩:=ka hF14
 simp only [q5q]
 refine w5 (σ:=Int × (List Node)) (fun s288=>y7 v_1 s288.1 s288.2) (fun s fr' h'=>∃ c133,fr' 3 = .ref [.int .i64 v_1.Kind,.int .i64 v_1.K,
   .int .i64 v_1.To,.int .i64 v_1.N] 0∧fr' 5 = .ptr b10 (v_1.K.toNat*6)∧fr' 6 = .ptr b10
   (v_1.To.toNat*6)∧fr' 7 = .int .i64 s.1∧SlN Node.R 6 68 pv0_3 s.2 c133∧Sep h' lo (c133++([Blk1 pb0 [.int .i64 v_0.Truth.Epoch,.int .i64 v_0.Truth.Leader,pv0_2,
   pv0_3,pv0_4] 28]++(pc0_2++(pc0_4++(S0)))))) hX139 ⟨pc0_3,f120,f121,f122,rfl,ph0_3,(l6 (l6 (l6 (l6 hS124))))⟩ (fun _ _ _ h=>h) ?_ ?_
 ·rintro ⟨s131,s132⟩ fr149 h150 ⟨c133,f152,f153,f154,f155,hv134,hS151⟩ oc138 hF141 hr142 Q143 hN144 hK145 hR146 hE147
  dsimp only at *
  unfold y7 at hF141
  obtain ⟨x157,hx158,hF159⟩:=qk hF141
  obtain ⟨c160,cs161,os162,hv163,hR164,hS165⟩:=a1t (a14 hv134 hb11 Node.RO.len) hx158 z8 Node.RO.len hS151
  obtain ⟨v167,c168,v171,c172,v175,c176,hv169,hv173,hv177,rfl,rfl⟩:=hR164
  have hS166:=a1v hS165
  simp only [q03,qc,js,f155,zr,ql,f153,kp,z9,jb,d8,d9,e8,zd,zt,B0,reduceIte,
    a9]
  refine qu (v:=v171) ((a1u (o:=3) hv163 rfl hx158 hS166 (nle rfl)).trans rfl) ?_
  obtain ⟨c179,hv180,hS181⟩:=a0z (c:=c160) (os:=c168++(c172++(c176))) hv163 rfl hx158 z8 (Node.RI (x:=x157) hv169 hv173 hv177) (a0q (c1:=c168)
    (c2:=c172) (c3:=c176) (l6 (l6 (l6 (l6 hS166)))))
  have hv182:=a0s hv180
  obtain ⟨x183,hx184,hF185⟩:=qk hF159
  obtain ⟨c186,cs187,os188,hv189,hR190,hS191⟩:=a1t (a14 hv182 hb11 Node.RO.len) hx184 z8 Node.RO.len hS181
  obtain ⟨v193,c194,v197,c198,v201,c202,hv195,hv199,hv203,rfl,rfl⟩:=hR190
  have hS192:=a1v hS191
  simp only [qdy,ql,a1n hv173,f154,zr,kp,z9,jb,d8,d9,e8,zd,zt,B0,reduceIte,a9]
  refine qu (v:=v197) ((a1u (o:=3) hv189 rfl hx184 hS192 (nle rfl)).trans rfl) ?_
  simp only [qdy,ql,a1n hv199,q99,qrp,k5,kq,zr,B0,reduceIte,a9]
  obtain ⟨v208,hx209,hF210⟩:=qk hF185
  refine we 16 (fun fr' h'=>Sep h' lo (c186++([Blk1 pb0 [.int .i64 v_0.Truth.Epoch,.int .i64 v_0.Truth.Leader,pv0_2,pv0_3,
    pv0_4] 28]++(c194++(c198++(c202++(pc0_2++(pc0_4++(S0))))))))∧fr' 96 = .bool v208∧fr' 3 = .ref [.int .i64 v_1.Kind,.int .i64 v_1.K,.int .i64 v_1.To,
    .int .i64 v_1.N] 0∧fr' 5 = .ptr b10 (v_1.K.toNat*6)∧fr' 6 = .ptr b10 (v_1.To.toNat*6)∧fr' 7 = .int .i64 s131) rfl (fun Q205 hN206=>?_) ?_
  ·simp only [f4,i7]
   simp only [qr (g:=80),B0,reduceIte,a9]
   refine jm (t:=(decide (s131<(mnI (f0 x157.Log:Int) (f0 x183.Log:Int))))) (fun hg207=>?_) (fun hg207=>?_)
   ·rw [iteT hg207] at hx209
    obtain ⟨c211,hv212,hS213⟩:=a0z (c:=c186) (os:=c194++(c198++(c202))) hv189 rfl hx184 z8 (Node.RI (x:=x183) hv195 hv199 hv203) (a0q (c1:=c194)
      (c2:=c198) (c3:=c202) (l6 (l6 (l6 (l6 hS192)))))
    have hv214:=a0s hv212
    obtain ⟨c215,cs216,os217,hv218,hR219,hS220⟩:=a1t (a14 hv214 hb11 Node.RO.len) hx158 z8 Node.RO.len hS213
    obtain ⟨v222,c223,v226,c227,v230,c231,hv224,hv228,hv232,rfl,rfl⟩:=hR219
    have hS221:=a1v hS220
    simp only [hg207,qr (g:=80),zl,f153,zr,ql,kp,z9,jb,d8,d9,e8,zd,zt,B0,
      reduceIte,a9]
    refine qu (v:=v226) ((a1u (o:=3) hv218 rfl hx158 hS221 (nle rfl)).trans rfl) ?_
    obtain ⟨x234,hx235,hF236⟩:=qk hx209
    simp only [hg207,qr (g:=80),zl,f155,zr,ql,yz,B0,reduceIte,a9]
    obtain ⟨b237,hb238⟩:=a04 hv228 (j9 hx235)
    refine qu (SlF.ia hv228 hb238 hx235) ?_
    simp only [hg207,qr (g:=80),zl,zt,B0,reduceIte,a9]
    refine qu (v := .agg [.int .i64 x234.Epoch,.int .i64 x234.Value]) ((SlF.lds (o:=0) hv228 (l9 hS221) hb238 hx235 (fun _=>rfl) (nle rfl)).trans rfl) ?_
    obtain ⟨c239,hv240,hS241⟩:=a0z (c:=c215) (os:=c223++(c227++(c231))) hv218 rfl hx158 z8 (Node.RI (x:=x157) hv224 hv228 hv232) (a0q (c1:=c223)
      (c2:=c227) (c3:=c231) (l6 (l6 (l6 (l6 hS221)))))
    have hv242:=a0s hv240
    obtain ⟨c243,cs244,os245,hv246,hR247,hS248⟩:=a1t (a14 hv242 hb11 Node.RO.len) hx184 z8 Node.RO.len hS241
    obtain ⟨v250,c251,v254,c255,v258,c259,hv252,hv256,hv260,rfl,rfl⟩:=hR247
    have hS249:=a1v hS248
    simp only [hg207,qr (g:=80),zl,f154,zr,ql,kp,z9,jb,d8,d9,e8,zd,zt,B0,
      reduceIte,a9]
    refine qu (v:=v254) ((a1u (o:=3) hv246 rfl hx184 hS249 (nle rfl)).trans rfl) ?_
    obtain ⟨x262,hx263,hF264⟩:=qk hF236
    simp only [hg207,qr (g:=80),zl,f155,zr,ql,yz,B0,reduceIte,a9]
    obtain ⟨b265,hb266⟩:=a04 hv256 (j9 hx263)
    refine qu (SlF.ia hv256 hb266 hx263) ?_
    simp only [hg207,qr (g:=80),zl,zt,B0,reduceIte,a9]
    refine qu (v := .agg [.int .i64 x262.Epoch,.int .i64 x262.Value]) ((SlF.lds (o:=0) hv256 (l9 hS249) hb266 hx263 (fun _=>rfl) (nle rfl)).trans rfl) ?_
    simp only [hg207,qr (g:=80),zl,qpy,B0,reduceIte,a9]
    refine qu (v := .bool ((x234.Epoch == x262.Epoch)&&((x234.Value == x262.Value)&&true))) rfl ?_
    simp only [hg207,jh,ql,zo,za,qp,B0,reduceIte,a9]
    have e267:=qj hF264
    exact hN206 _ _ ⟨(s9 (s9 (t9 (t9 (t9 (s9 (s9 hS192))))))),by rw [←e267]; simp only [B0,reduceIte,a9],f152,f153,f154,f155⟩
   ·rw [iteF hg207] at hx209
    simp only [hg207,qr (g:=80),ku,jh,ql,zn,za,qp,B0,reduceIte,a9]
    have e268:=qj hx209
    exact hN206 _ _ ⟨(s9 (s9 (t9 (t9 (t9 (s9 (s9 hS192))))))),by rw [←e268]; simp only [B0,reduceIte,a9],f152,f153,f154,f155⟩
  rintro fr269 h275 ⟨hS276,f270,f271,f272,f273,f274⟩
  simp only [i0,i6]
  simp only [za,f270,q9,B0,reduceIte,a9]
  refine qy (t:=v208) (fun hc277=>?_) (fun hc277=>?_)
  ·rw [iteT hc277] at hF210
   simp only [zh,kz,qd,f274,qf,qz,qb,wn,qa,yl,qp,B0,reduceIte,a9]
   obtain ⟨c278,hv279,hS280⟩:=a0z (c:=c186) (os:=c194++(c198++(c202))) hv189 rfl hx184 z8 (Node.RI (x:=x183) hv195 hv199 hv203) (a0q (c1:=c194)
     (c2:=c198) (c3:=c202) (l6 (n9 (n9 (n9 hS276)))))
   have hv281:=a0s hv279
   have e282:=qj hF210
   exact hN144 _ _ _ e282.symm ⟨c278,f271,f272,f273,rfl,hv281,(l6 (l6 (l6 (l6 hS280))))⟩
  rw [iteF hc277] at hF210
  simp only [yy,yn,wh,B0,reduceIte,a9]
  obtain ⟨c283,hv284,hS285⟩:=a0z (c:=c186) (os:=c194++(c198++(c202))) hv189 rfl hx184 z8 (Node.RI (x:=x183) hv195 hv199 hv203) (a0q (c1:=c194)
    (c2:=c198) (c3:=c202) (l6 (n9 (n9 (n9 hS276)))))
  have hv286:=a0s hv284
  have e287:=qj hF210
  exact hK145 _ _ _ e287.symm ⟨c283,f271,f272,f273,f274,hv286,(l6 (l6 (l6 (l6 hS285))))⟩
 rintro ⟨s289,s290⟩ fr293 h294 rfl ⟨c291,f296,f297,f298,f299,hv292,hS295⟩
 dsimp only [jnO] at hk140
 dsimp only at *
 unfold qbn at hk140
 obtain ⟨x300,hx301,hF302⟩:=qk hk140
 obtain ⟨c303,cs304,os305,hv306,hR307,hS308⟩:=a1t (a14 hv292 hb11 Node.RO.len) hx301 z8 Node.RO.len hS295
 obtain ⟨v310,c311,v314,c315,v318,c319,hv312,hv316,hv320,rfl,rfl⟩:=hR307
 have hS309:=a1v hS308
 simp only [q39,qc,qd,f298,qf,yj,qb,z9,qt,d8,d9,e8,zd,qn,B0,reduceIte,a9]
 refine qh (v:=v314) ((a1u (o:=3) hv306 rfl hx301 hS309 (nle rfl)).trans rfl) ?_
 obtain ⟨l322,hx323,hF324⟩:=qk hF302
 simp only [f299,qf,qej,t8,a0m,B0,reduceIte,a9]
 obtain ⟨w325,i326,he327,hw328⟩:=SlF.win (f:=qg) (ty:=92) (some s289) none hv316 hx323 (l9 hS309)
 refine qh he327 ?_
 simp only [qf,qa,qzu,qc,js,f297,qkq,ql,qfq,evp,B0,reduceIte,a9]
 refine qdo (n:=2) (f:=qg) ([] : List Row) hS309 rfl rfl (fun v330 c331 h332 hv333 hS334 hq329=>?_)
 obtain ⟨x336,hx337,hF338⟩:=qk hF324
 obtain ⟨hp339,hF340⟩:=qmt hF338
 have hn341:=qr6 hp339 hx301 hx337
 obtain ⟨c342,cs343,os344,hv345,hR346,hS347⟩:=a1t hv306 hx337 ((qge hn341).trans z8) Node.RO.len (n7 hS334)
 obtain ⟨v349,c350,v353,c354,v357,c358,hv351,hv355,hv359,rfl,rfl⟩:=hR346
 have hS348:=a1v hS347
 simp only [f297,zr,ql,kp,z9,jb,d8,d9,e8,zd,zt,B0,reduceIte,a9]
 refine qu (v:=v353) ((a1u (o:=3) hv345 rfl hx337 hS348 (nle rfl)).trans rfl) ?_
 obtain ⟨l361,hx362,hF363⟩:=qk hF340
 simp only [f299,zr,ql,qlx,t8,a0m,B0,reduceIte,a9]
 obtain ⟨w364,i365,he366,hw367⟩:=SlF.win (f:=qg) (ty:=92) none (some s289) hv355 hx362 (l9 hS348)
 refine qu he366 ?_
 simp only [qkl,B0,reduceIte,a9]
 obtain ⟨l368,hx369,hF370⟩:=qk hF363
 have hq371:=nwq (fun z hz=>Sep.dj (t9 (Sep.m8 hS348)) qfo (a23 hv333 z hz))
 refine qog qme ?_
 refine qa6 (f:=qg) hv333 (n9 hS348) hW (fun _=>rfl) (fun _=>rfl) (SlW.first hw367 hv355 (l9 hS348) (fun _=>rfl)) hx369
   (fun v372 c373 h374 hv375 hS376=>?_)
 simp only [qkq,ql,f296,qb2,d8,d9,e8,qs,w9,xy,B0,reduceIte,a9]
 refine qu (v := .int .i64 v_1.N) rfl ?_
 obtain ⟨l378,hx379,hF380⟩:=qk hF370
 simp only [qkq,ql,qvb,SlW.plen hw328 hv316,q9x,qrp,q90,t8,a0m,B0,reduceIte,a9]
 obtain ⟨w381,i382,he383,hw384⟩:=SlW.win (ty:=92) none (some (mnI v_1.N (f0 l322:Int))) hw328 hv316 hx379 (s9 hS376)
 refine qu he383 ?_
 simp only [qh9,B0,reduceIte,a9]
 obtain ⟨l385,hx386,hF387⟩:=qk hF380
 refine qa6 (f:=qg) hv375 hS376 hW (fun _=>rfl) (fun _=>rfl) (SlW.first hw384 hv316 (s9 hS376) (fun _=>rfl)) hx386 (fun v388 c389 h390 hv391 hS392=>?_)
 simp only [kp,ql,z9,jb,d8,d9,e8,zd,qcu,B0,reduceIte,a9]
 refine qiu (n:=6) (us:=[v388]) (cs:=[.int .i64 x336.View.Epoch,.int .i64 x336.View.Leader,v349,v353,v357,
   .int .i64 x336.Told]) (o:=3) (cs':=[.int .i64 x336.View.Epoch,.int .i64 x336.View.Leader,v349,v388,v357,
   .int .i64 x336.Told]) (kg (l7 hv391)) hv345 rfl hx337 (n7 hS392) hW rfl (qm (l7 hv391) zq) (nle rfl) rfl (fun c396 h394 hv397 hS395=>?_)
 simp only [za,q3o,qc,qd,f297,qf,yj,qb,z9,qt,d8,d9,e8,zd,zp,B0,reduceIte,
   a9]
 refine wb (n:=6) (us:=[.int .i64 0]) (cs:=[.int .i64 x336.View.Epoch,.int .i64 x336.View.Leader,v349,v388,v357,
   .int .i64 x336.Told]) (o:=5) (cs':=[.int .i64 x336.View.Epoch,.int .i64 x336.View.Leader,v349,v388,v357,
   .int .i64 0]) rfl hv397 rfl hx337 hS395 hW rfl rfl (nle rfl) rfl (fun c400 h398 hv401 hS399=>?_)
 have hv402:=SlG.swap hv401 (Ne.symm hn341)
 simp only [qa,q4s,qc,js,f298,zr,ql,kp,z9,jb,d8,d9,e8,zd,zt,B0,reduceIte,
   a9]
 refine qu (v:=v318) ((a1u (o:=4) hv402 rfl hx301 hS399 (nle rfl)).trans rfl) ?_
 simp only [f296,jb,ql,d8,d9,e8,qs,zt,B0,reduceIte,a9]
 refine qu (v := .int .i64 v_1.K) rfl ?_
 have hv403:=SlG.swap hv402 hn341
 simp only [f297,zr,ql,kp,z9,jb,d8,d9,e8,zd,zt,B0,reduceIte,a9]
 refine qu (v:=v388) ((a1u (o:=3) hv403 rfl hx337 hS399 (nle rfl)).trans rfl) ?_
 obtain ⟨x404,hx405,hF406⟩:=qk hF387
 simp only [qdy,ql,a1n hv391,yz,B0,reduceIte,a9]
 obtain ⟨b407,hb408⟩:=a04 hv320 (j9 hx405)
 refine qu (SlF.ia hv320 hb408 hx405) ?_
 simp only [qcu,B0,reduceIte,a9]
 refine qjt (f:=cI) (x':=(f0 l385:Int)) (o:=0) hv320 (Sep.m7 hS399) hW hb408 hx405 (fun _=>rfl) rfl rfl (nle rfl) rfl (fun c411 h409 hv412 hS410=>?_)
 have hx413:=kj (x':=(f0 l385:Int)) hx405
 simp only [za,qc,qd,qf,qa,qx,B0,reduceIte,a9]
 obtain ⟨c414,hv415,hS416⟩:=SlG.cls (e':=(Node.mk x336.View l385 x336.Known 0)) (c:=c400) (os:=c350++(c389++(c358))) hv403 rfl hx337 ((qge hn341).trans z8)
   (Node.RI (x:=(Node.mk x336.View l385 x336.Known 0)) hv351 hv391 hv359) (a0q (c1:=c350) (c2:=c389) (c3:=c358) (n9 (n9 (l6 (t9 hS410)))))
 have hx417:=kj (x':=(Node.mk x336.View l385 x336.Known 0)) hx337
 have hx418:=qk2 (e:=(Node.mk x336.View l385 x336.Known 0)) hx301 (Ne.symm hn341)
 obtain ⟨c419,hv420,hS421⟩:=SlG.cls (e':=(Node.mk x300.View x300.Log (a0u x300.Known v_1.K.toNat (f0 l385:Int)) x300.Told)) (c:=c414) (os:=c311 ++
   (c315++(c411))) hv415 rfl hx418 z8 (Node.RI (x:=(Node.mk x300.View x300.Log (a0u x300.Known v_1.K.toNat
   (f0 l385:Int)) x300.Told)) hv312 hv316 hv412) (a0q (c1:=c311) (c2:=c315) (c3:=c411) (l6 (n9 (n9 (n7 hS416)))))
 have hx422:=kj (x':=(Node.mk x300.View x300.Log (a0u x300.Known v_1.K.toNat (f0 l385:Int)) x300.Told)) hx418
 have hv423:=a0s hv420
 have he:=qj hF406
 subst he
 simp only [q8,B0,reduceIte,a9]
 exact ⟨pc0_2,c419,pc0_4,by first | trivial | rfl,ph0_2,hv423,ph0_4,(l6 (l6 (n7 (l6 (o8 (n7 hS421))))))⟩
theorem qhd {W:Nat→Bool}{h:Heap} (hW:∀ b,
  (geL h.length) b→W b=true) (x_0:Int) (r:Bool) (hF:some (yh x_0)=some r) : Ret E W 109 [.int .i64 x_0] h
  (fun v h'=>cut h.length h' E.sz false 9 v=some (.bool r)):=by
 refine Ret.of (fn:=qm0) rfl (Run.of ?_)
 unfold yh at hF
 have zf0:zb [.int .i64 x_0] 0 = .int .i64 x_0:=rfl
 generalize zb [.int .i64 x_0]=fr0 at zf0 ⊢
 have hS:Sep h (geL h.length) []:=a0k h
 simp only [qm0,qc,qd,qf,qa,qsy,zf0,qz,qb,ya,qx,B0,reduceIte,a9]
 have he:=qj hF
 subst he
 simp only [q8,B0,reduceIte,a9]
 exact rfl
theorem qmx {W:Nat→Bool}{h:Heap} (hW:∀ b,
  (geL h.length) b→W b=true) (x_0:Int) (y_1:Int) (r:Bool) (hF:some (qbu x_0 y_1)=some r) : Ret E W 105 [.int .i64 x_0,
  .int .i64 y_1] h (fun v h'=>cut h.length h' E.sz false 9 v=some (.bool r)):=by
 refine Ret.of (fn:=qse) rfl (Run.of ?_)
 unfold qbu at hF
 have zf0:zb [.int .i64 x_0,.int .i64 y_1] 0 = .int .i64 x_0:=rfl
 have zf1:zb [.int .i64 x_0,.int .i64 y_1] 1 = .int .i64 y_1:=rfl
 generalize zb [.int .i64 x_0,.int .i64 y_1]=fr0 at zf0 zf1 ⊢
 have hS:Sep h (geL h.length) []:=a0k h
 simp only [qse,qc,qd,qf,qa,qtw,zf0,zg,B0,reduceIte,a9]
 refine jo rfl (qi qo zc) (qhd (fun b hb=>decide_eq_true hb) x_0 _ rfl) ?_
 simp only [qf,B0,reduceIte,a9]
 refine ji 4 (fun fr' h'=>Sep h' (geL h.length) ([])∧fr' 11 = .bool ((yh x_0)&&(!(yh y_1)))∧fr' 0 = .int .i64 x_0∧fr' 1 = .int .i64 y_1)
   (fun Q1 hN2=>?_) ?_
 ·simp only [f4,i7]
  simp only [qe (g:=7),B0,reduceIte,a9]
  refine ze (t:=(yh x_0)) (fun hg3=>?_) (fun hg3=>?_)
  ·simp only [hg3,qe (g:=7),zi,zf1,qf,zg,B0,reduceIte,a9]
   refine jo rfl (qi qo zc) (qhd (fun b hb=>decide_eq_true hb) y_1 _ rfl) ?_
   simp only [hg3,qe (g:=7),zi,j8,qb,ko,qw,zo,qa,qp,B0,reduceIte,a9]
   exact hN2 _ _ ⟨hS,by rw [yb hg3]; simp only [B0,reduceIte,a9],zf0,zf1⟩
  ·simp only [hg3,qe (g:=7),jj,qw,qb,zn,qa,qp,B0,reduceIte,a9]
   exact hN2 _ _ ⟨hS,by rw [yd hg3]; simp only [B0,reduceIte,a9],zf0,zf1⟩
 rintro fr4 h8 ⟨hS9,f5,f6,f7⟩
 simp only [i0,i6]
 simp only [f5,qf,B0,reduceIte,a9]
 refine ji 4 (fun fr' h'=>Sep h' (geL h.length) ([])∧fr' 16 = .bool (((yh x_0)&&(!(yh y_1)))||(decide (x_0<y_1)))) (fun Q10 hN11=>?_) ?_
 ·simp only [f4,i7]
  simp only [qe (g:=12),B0,reduceIte,a9]
  refine ze (t:=((yh x_0)&&(!(yh y_1)))) (fun hg12=>?_) (fun hg12=>?_)
  ·simp only [hg12,qe (g:=12),jk,qw,qb,zo,qa,qp,B0,reduceIte,a9]
   exact hN11 _ _ ⟨hS9,by rw [orT hg12]; simp only [B0,reduceIte,a9]⟩
  ·simp only [hg12,qe (g:=12),qv,f6,qf,f7,qz,qb,kq,qw,zn,qa,qp,B0,reduceIte,a9]
   exact hN11 _ _ ⟨hS9,by rw [orF hg12]; simp only [B0,reduceIte,a9]⟩
 rintro fr13 h15 ⟨hS16,f14⟩
 simp only [i0,i6]
 simp only [f14,qf,qa,qx,B0,reduceIte,a9]
 have he:=qj hF
 subst he
 simp only [q8,B0,reduceIte,a9]
 exact rfl
theorem qft {W:Nat→Bool}{h:Heap} (hW:∀ b,
  (geL h.length) b→W b=true) (x_0:Int) (r:Bool) (hF:some (wc x_0)=some r) : Ret E W 106 [.int .i64 x_0] h
  (fun v h'=>cut h.length h' E.sz false 9 v=some (.bool r)):=by
 refine Ret.of (fn:=qrk) rfl (Run.of ?_)
 unfold wc at hF
 have zf0:zb [.int .i64 x_0] 0 = .int .i64 x_0:=rfl
 generalize zb [.int .i64 x_0]=fr0 at zf0 ⊢
 have hS:Sep h (geL h.length) []:=a0k h
 simp only [qrk,qc,qd,qf,qa,qu7,zf0,qz,qb,ya,qx,B0,reduceIte,a9]
 have he:=qj hF
 subst he
 simp only [q8,B0,reduceIte,a9]
 exact rfl
theorem qgg {W:Nat→Bool}{h:Heap} (hW:∀ b,
  (geL h.length) b→W b=true) (k:Nat) (x_0:List Int) (target_1:Int) (r:Int × Bool) (hF:wl k x_0 target_1=some r) : Ret E W 102 [lst cI x_0,
  .int .i64 target_1] h (fun v h'=>cut h.length h' E.sz false 9 v=some (.tup [.int .i64 r.1,.bool r.2])):=by
 refine Ret.of (fn:=u7) rfl (Run.of ?_)
 unfold wl at hF
 have zf0:zb [lst cI x_0,.int .i64 target_1] 0=lst cI x_0:=rfl
 have zf1:zb [lst cI x_0,.int .i64 target_1] 1 = .int .i64 target_1:=rfl
 generalize zb [lst cI x_0,.int .i64 target_1]=fr0 at zf0 zf1 ⊢
 have hS:Sep h (geL h.length) []:=a0k h
 simp only [u7,qc,qd,qf,qa,qq5,zf0,zy,qb,jd,qtx,qt9,B0,reduceIte,a9]
 obtain ⟨oc7,hX9,hk10⟩:=ka hF
 simp only [qtt]
 refine w5 (σ:=Int × Int) (fun s36=>yq x_0 target_1 s36.1 s36.2)
   (fun s fr' h'=>fr' 0=lst cI x_0∧fr' 1 = .int .i64 target_1∧fr' 6 = .int .i64 (f0 x_0:Int)∧fr' 7 = .int .i64 s.1∧fr' 8 = .int .i64 s.2∧Sep h'
   (geL h.length) ([])) hX9 ⟨zf0,zf1,rfl,rfl,rfl,hS⟩ (fun _ _ _ h=>h) ?_ ?_
 ·rintro ⟨s3,s4⟩ fr19 h20 ⟨f22,f23,f24,f25,f26,hS21⟩ oc8 hF11 hr12 Q13 hN14 hK15 hR16 hE17
  dsimp only at *
  unfold yq at hF11
  simp only [qud,qc,qd,f25,qf,f26,qz,qb,kq,qa,q9,B0,reduceIte,a9]
  refine qy (t:=(decide (s3<s4))) (fun hc28=>?_) (fun hc28=>?_)
  ·rw [iteT hc28] at hF11
   obtain ⟨x29,hx30,hF31⟩:=qk hF11
   simp only [zh,qtb,kz,qu9,qc,qd,f25,qf,f26,qz,qb,wn,q8w,zas,q9o (n:=1) (by decide),qa,
     qvx,f22,jl,B0,reduceIte,a9]
   refine qh (v := .ref (cI x29) 0) (kx hx30 rfl) ?_
   simp only [qn,B0,reduceIte,a9]
   refine qh (v := .int .i64 x29) rfl ?_
   simp only [f23,qf,zg,B0,reduceIte,a9]
   refine jo rfl (qi qo (qi qo zc)) (qmx (fun b hb=>decide_eq_true hb) x29 target_1 _ rfl) ?_
   simp only [qa,qwl,q9,B0,reduceIte,a9]
   refine qy (t:=(qbu x29 target_1)) (fun hc32=>?_) (fun hc32=>?_)
   ·rw [iteT hc32] at hF31
    simp only [qd,qf,qz,qb,wn,qa,yl,qp,B0,reduceIte,a9]
    have e33:=qj hF31
    exact hN14 _ _ _ e33.symm ⟨f22,f23,f24,rfl,f26,hS21⟩
   rw [iteF hc32] at hF31
   simp only [qd,qf,qa,yl,qp,B0,reduceIte,a9]
   have e34:=qj hF31
   exact hN14 _ _ _ e34.symm ⟨f22,f23,f24,f25,rfl,hS21⟩
  rw [iteF hc28] at hF11
  simp only [yy,yn,wh,B0,reduceIte,a9]
  have e35:=qj hF11
  exact hK15 _ _ _ e35.symm ⟨f22,f23,f24,f25,f26,hS21⟩
 rintro ⟨s37,s38⟩ fr39 h40 rfl ⟨f42,f43,f44,f45,f46,hS41⟩
 dsimp only [jnO] at hk10
 dsimp only at *
 unfold uv at hk10
 simp only [qv9,qc,qd,f45,qf,f44,qz,qb,kq,B0,reduceIte,a9]
 obtain ⟨v50,hx51,hF52⟩:=qk hk10
 refine ji 18 (fun fr' h'=>Sep h' (geL h.length) ([])∧fr' 53 = .bool v50∧fr' 31 = .int .i64 s37) (fun Q47 hN48=>?_) ?_
 ·simp only [f4,i7]
  simp only [qe (g:=35),B0,reduceIte,a9]
  refine ze (t:=(decide (s37<(f0 x_0:Int)))) (fun hg49=>?_) (fun hg49=>?_)
  ·rw [iteT hg49] at hx51
   obtain ⟨x53,hx54,hF55⟩:=qk hx51
   simp only [hg49,qe (g:=35),zi,f42,qf,f45,jl,B0,reduceIte,a9]
   refine qh (v := .ref (cI x53) 0) (kx hx54 rfl) ?_
   simp only [hg49,qe (g:=35),zi,qn,B0,reduceIte,a9]
   refine qh (v := .int .i64 x53) rfl ?_
   simp only [hg49,qe (g:=35),zi,f43,qf,qz,qb,k6,B0,reduceIte,a9]
   obtain ⟨v59,hx60,hF61⟩:=qk hF55
   refine ji 10 (fun fr' h'=>Sep h' (geL h.length) ([])∧fr' 52 = .bool v59∧fr' 31 = .int .i64 s37∧fr' 35 = .bool (decide (s37<(f0 x_0:Int))))
     (fun Q56 hN57=>?_) ?_
   ·simp only [f4,i7]
    simp only [qe (g:=42),B0,reduceIte,a9]
    refine ze (t:=(decide (x53=target_1))) (fun hg58=>?_) (fun hg58=>?_)
    ·rw [iteT hg58] at hx60
     simp only [hg58,qe (g:=42),jk,qe (g:=48),xh,hg49,qe (g:=35),zi,qw,qb,zo,qa,
       qp,B0,reduceIte,a9]
     have e62:=qj hx60
     exact hN57 _ _ ⟨hS41,by rw [←e62]; simp only [B0,reduceIte,a9],rfl,by simp only [hg49,B0,reduceIte,a9]⟩
    ·rw [iteF hg58] at hx60
     obtain ⟨x63,hx64,hF65⟩:=qk hx60
     simp only [hg58,qe (g:=42),qv,f42,qf,f45,jl,B0,reduceIte,a9]
     refine qh (v := .ref (cI x63) 0) (kx hx64 rfl) ?_
     simp only [hg58,qe (g:=42),qv,qn,B0,reduceIte,a9]
     refine qh (v := .int .i64 x63) rfl ?_
     simp only [hg58,qe (g:=42),qv,zg,B0,reduceIte,a9]
     refine jo rfl (qi qo zc) (qft (fun b hb=>decide_eq_true hb) x63 _ rfl) ?_
     simp only [hg58,qe (g:=42),qv,qf,B0,reduceIte,a9]
     refine ji 3 (fun fr' h'=>Sep h' (geL h.length) ([])∧fr' 51 = .bool ((wc x63) &&
       (wc target_1))∧fr' 31 = .int .i64 s37∧fr' 35 = .bool (decide (s37<(f0 x_0:Int)))∧fr' 42 = .bool (decide (x53=target_1)))
       (fun Q66 hN67=>?_) ?_
     ·simp only [f4,i7]
      simp only [qe (g:=48),B0,reduceIte,a9]
      refine ze (t:=(wc x63)) (fun hg68=>?_) (fun hg68=>?_)
      ·simp only [hg68,qe (g:=48),zi,f43,qf,zg,B0,reduceIte,a9]
       refine jo rfl (qi qo zc) (qft (fun b hb=>decide_eq_true hb) target_1 _ rfl) ?_
       simp only [hg58,qe (g:=42),qv,hg68,qw,qb,zo,qa,qp,B0,reduceIte,a9]
       exact hN67 _ _ ⟨hS41,by rw [yb hg68]; simp only [B0,reduceIte,a9],rfl,by simp only [hg49,B0,reduceIte,a9],by simp only [hg58,B0,
         reduceIte,a9]⟩
      ·simp only [hg68,qe (g:=48),jj,hg58,qe (g:=42),qv,qw,qb,zn,qa,qp,B0,reduceIte,
        a9]
       exact hN67 _ _ ⟨hS41,by rw [yd hg68]; simp only [B0,reduceIte,a9],rfl,by simp only [hg49,B0,reduceIte,a9],by simp only [hg58,B0,
         reduceIte,a9]⟩
     rintro fr69 h74 ⟨hS75,f70,f71,f72,f73⟩
     simp only [i0,i6]
     simp only [f72,hg49,qe (g:=35),zi,f73,hg58,qw,qb,zn,f70,qa,qp,B0,reduceIte,a9]
     have e76:=qj hF65
     exact hN57 _ _ ⟨hS75,by rw [←e76]; simp only [B0,reduceIte,a9],f71,by simp only [f72,hg49,B0,reduceIte,a9]⟩
   rintro fr77 h81 ⟨hS82,f78,f79,f80⟩
   simp only [i0,i6]
   simp only [f80,hg49,qw,qb,zo,f78,qa,qp,B0,reduceIte,a9]
   have e83:=qj hF61
   exact hN48 _ _ ⟨hS82,by rw [←e83]; simp only [B0,reduceIte,a9],f79⟩
  ·rw [iteF hg49] at hx51
   simp only [hg49,qe (g:=35),jj,qe (g:=42),xh,qe (g:=48),qw,qb,zn,qa,qp,B0,reduceIte,
     a9]
   have e84:=qj hx51
   exact hN48 _ _ ⟨hS41,by rw [←e84]; simp only [B0,reduceIte,a9],rfl⟩
 rintro fr85 h88 ⟨hS89,f86,f87⟩
 simp only [i0,i6]
 simp only [f87,qf,f86,qa,qx,B0,reduceIte,a9]
 have he:=qj hF52
 subst he
 simp only [qxk,B0,reduceIte,a9]
 exact q8x (qi rfl (qi rfl zc))
theorem qjr {W:Nat→Bool}{h:Heap}{lo:Nat→Prop}{S0:List Obj} (hW:∀ b,
  lo b→W b=true) (pv0:XV) (pc0:List Obj) (s_0:List Int) (ph0:SlF cI 1 3 pv0 s_0 pc0) (i_1:Int) (j_2:Int) (r:List Int)
  (hF:qbl s_0 i_1 j_2=some r) (hS:Sep h lo (pc0++S0)) : Ret E W 103 [pv0,.int .i64 i_1,.int .i64 j_2] h (fun v h'=>∃ rv0 rc0,
  v=rv0∧SlF cI 1 3 rv0 r rc0∧Sep h' lo (rc0++S0)):=zad (f:=cI) (n:=1) (ty:=3) (bytes:=8) (z:=[(.int .i64 0)]) rfl (fun _=>rfl)
  (fun _=>rfl) rfl rfl rfl hW ph0 hF hS
end Go.Proofs.Ytohofoampalhoaa.X
