/- The functions' code comes to what the plain functions say (3). -/
import Derived.Test.YtjloihcijdcpeaaXAH2
set_option linter.unusedVariables false
set_option linter.unusedSimpArgs false
set_option maxRecDepth 100000
namespace Go.Proofs.Ytjloihcijdcpeaa.X
open Go
open Nat (reduceEqDiff)
theorem qcm {W:Nat→Bool}{h:Heap} (hW:∀ b,
  (geL h.length) b→W b=true) (l_0:List Int) (many_1:Int) (r:Bool) (hF:xj l_0 many_1=some r) : Ret E W 82 [lst cI l_0,
  .int .i64 many_1] h (fun v h'=>cut h.length h' E.sz false 9 v=some (.bool r)):=by
 refine Ret.of (fn:=x82) rfl (Run.of ?_)
 unfold xj at hF
 have zf0:zd [lst cI l_0,.int .i64 many_1] 0=lst cI l_0:=rfl
 have zf1:zd [lst cI l_0,.int .i64 many_1] 1 = .int .i64 many_1:=rfl
 generalize zd [lst cI l_0,.int .i64 many_1]=fr0 at zf0 zf1 ⊢
 have hS:Sep h (geL h.length) []:=Sep.nil h
 simp only [x82,qf,qe,qh,qa,qvy,zf0,zq,qb,zw,B0,reduceIte,reduceEqDiff]
 obtain ⟨oc3,hX5,hk6⟩:=jl hF
 simp only [qxo]
 refine yf (σ:=Unit) l_0 (fun i1 x2 _=>qb3 l_0 many_1 i1 x2 ) (fun s fr' h'=>fr' 0=lst cI l_0∧fr' 1 = .int .i64 many_1∧fr' 7=lst cI l_0∧Sep h'
   (geL h.length) ([])) hX5 ⟨zf0,zf1,rfl,hS⟩ (by simp only [B0,reduceIte,reduceEqDiff]) (by simp only [B0,reduceIte,
   reduceEqDiff]) (fun _ _ _ h=>h) rfl rfl (fun _ _ _ _ h=>h) (fun _ _ _ _ h=>h) (fun _ _ _ _ h=>h) (by decide) ?_ ?_
 ·rintro i1 x2 _ fr15 h16 hx21 ⟨f18,f19,f20,hS17⟩ f22 f23 oc4 hF7 hr8 Q9 hN10 hB14 hK11 hR12 hE13
  unfold qb3 at hF7
  simp only [qxl,qf,qe,f22,qh,f20,z1,B0,reduceIte,reduceEqDiff]
  refine qi (v := .ref (cI x2) 0) (ye hx21 rfl) ?_
  simp only [ql,B0,reduceIte,reduceEqDiff]
  refine qi (v := .int .i64 x2) rfl ?_
  simp only [qh,qa,q1m,qf,qe,qs,qb,k8,B0,reduceIte,reduceEqDiff]
  refine zt 4 (fun fr' h'=>Sep h' (geL h.length) ([])∧fr' 20 = .bool ((decide (x2<0))||(decide
    (many_1≤x2)))∧fr' 0=lst cI l_0∧fr' 1 = .int .i64 many_1∧fr' 5 = .int .i64 (i1:Int)∧fr' 6 = .int .i64 x2∧fr' 7=lst cI l_0∧fr' 8 = .int .i64
    (List.length l_0:Int)∧fr' 9 = .int .i64 (i1:Int)) (fun Q24 hN25=>?_) ?_
  ·simp only [List.take_succ_cons,List.take_zero]
   simp only [qc (g:=16),B0,reduceIte,reduceEqDiff]
   refine q9 (t:=(decide (x2<0))) (fun hg26=>?_) (fun hg26=>?_)
   ·simp only [hg26,qc (g:=16),zu,qr,qb,zj,qa,qo,B0,reduceIte,reduceEqDiff]
    exact hN25 _ _ ⟨hS17,by rw [orT hg26]; simp only [B0,reduceIte,reduceEqDiff],f18,f19,rfl,rfl,f20,f23,f22⟩
   ·simp only [hg26,qc (g:=16),qt,qh,f19,qs,qb,qcr,qr,zi,qa,qo,B0,reduceIte,reduceEqDiff]
    exact hN25 _ _ ⟨hS17,by rw [orF hg26]; simp only [B0,reduceIte,reduceEqDiff],f18,f19,rfl,rfl,f20,f23,f22⟩
  rintro fr27 h36 ⟨hS37,f28,f29,f30,f31,f32,f33,f34,f35⟩
  simp only [List.drop_succ_cons,List.drop_zero]
  simp only [f28,qh,B0,reduceIte,reduceEqDiff]
  obtain ⟨v41,hx42,hF43⟩:=qm hF7
  refine zt 12 (fun fr' h'=>Sep h' (geL h.length) ([])∧fr' 33 = .bool v41∧fr' 0=lst cI l_0∧fr' 1 = .int .i64 many_1∧fr' 7=lst cI l_0∧fr' 8 = .int .i64
    (List.length l_0:Int)∧fr' 9 = .int .i64 (i1:Int)) (fun Q38 hN39=>?_) ?_
  ·simp only [List.take_succ_cons,List.take_zero]
   simp only [qc (g:=21),B0,reduceIte,reduceEqDiff]
   refine q9 (t:=((decide (x2<0))||(decide (many_1≤x2)))) (fun hg40=>?_) (fun hg40=>?_)
   ·rw [iteT hg40] at hx42
    simp only [hg40,qc (g:=21),zu,qc (g:=24),qbg,qr,qb,zj,qa,qo,B0,reduceIte,reduceEqDiff]
    have e44:=qj hx42
    exact hN39 _ _ ⟨hS37,by rw [←e44]; simp only [B0,reduceIte,reduceEqDiff],f29,f30,f33,f34,f35⟩
   ·rw [iteF hg40] at hx42
    simp only [hg40,qc (g:=21),qt,f31,qh,qs,qb,qii,B0,reduceIte,reduceEqDiff]
    obtain ⟨v48,hx49,hF50⟩:=qm hx42
    refine zt 8 (fun fr' h'=>Sep h' (geL h.length) ([])∧fr' 32 = .bool v48∧fr' 0=lst cI l_0∧fr' 1 = .int .i64 many_1∧fr' 7=lst cI l_0∧fr' 8 = .int .i64
      (List.length l_0:Int)∧fr' 9 = .int .i64 (i1:Int)∧fr' 21 = .bool ((decide (x2<0))||(decide (many_1≤x2)))) (fun Q45 hN46=>?_) ?_
    ·simp only [List.take_succ_cons,List.take_zero]
     simp only [qc (g:=24),B0,reduceIte,reduceEqDiff]
     refine q9 (t:=(decide ((0:Int)<(i1:Int)))) (fun hg47=>?_) (fun hg47=>?_)
     ·rw [iteT hg47] at hx49
      obtain ⟨x51,hx52,hF53⟩:=qm hx49
      simp only [hg47,qc (g:=24),q8,f29,qh,f31,qs,qb,qgc,z1,B0,reduceIte,reduceEqDiff]
      refine qi (v := .ref (cI x51) 0) (kc hx52 rfl) ?_
      simp only [hg47,qc (g:=24),q8,ql,B0,reduceIte,reduceEqDiff]
      refine qi (v := .int .i64 x51) rfl ?_
      simp only [hg47,qc (g:=24),q8,f32,qh,qs,qb,qcr,hg40,qc (g:=21),qt,qr,zj,qa,
        qo,B0,reduceIte,reduceEqDiff]
      have e54:=qj hF53
      exact hN46 _ _ ⟨hS37,by rw [←e54]; simp only [B0,reduceIte,reduceEqDiff],f29,f30,f33,f34,f35,by simp only [hg40,B0,reduceIte,reduceEqDiff]⟩
     ·rw [iteF hg47] at hx49
      simp only [hg47,qc (g:=24),zz,hg40,qc (g:=21),qt,qr,qb,zi,qa,qo,B0,reduceIte,
        reduceEqDiff]
      have e55:=qj hx49
      exact hN46 _ _ ⟨hS37,by rw [←e55]; simp only [B0,reduceIte,reduceEqDiff],f29,f30,f33,f34,f35,by simp only [hg40,B0,reduceIte,reduceEqDiff]⟩
    rintro fr56 h64 ⟨hS65,f57,f58,f59,f60,f61,f62,f63⟩
    simp only [List.drop_succ_cons,List.drop_zero]
    simp only [f63,hg40,qr,qb,zi,f57,qa,qo,B0,reduceIte,reduceEqDiff]
    have e66:=qj hF50
    exact hN39 _ _ ⟨hS65,by rw [←e66]; simp only [B0,reduceIte,reduceEqDiff],f58,f59,f60,f61,f62⟩
  rintro fr67 h74 ⟨hS75,f68,f69,f70,f71,f72,f73⟩
  simp only [List.drop_succ_cons,List.drop_zero]
  simp only [qa,f68,qy,B0,reduceIte,reduceEqDiff]
  refine qu (t:=v41) (fun hc76=>?_) (fun hc76=>?_)
  ·rw [iteT hc76] at hF43
   simp only [qf,qe,qh,qa,qx,B0,reduceIte,reduceEqDiff]
   have e77:=qj hF43
   subst e77
   have ho78:=hr8 _ rfl
   have hk79:=hk6
   rw [ho78] at hk79
   dsimp only [jnO] at hk79
   apply hR12
   have he:=qj hk79
   subst he
   simp only [qw,B0,reduceIte,reduceEqDiff]
   exact rfl
  rw [iteF hc76] at hF43
  simp only [za,qo,B0,reduceIte,reduceEqDiff]
  have e80:=qj hF43
  exact hN10 _ _ _ e80.symm ⟨f69,f70,f71,hS75⟩ (f73) (f72)
 rintro _ fr82 h83 rfl ⟨f85,f86,f87,hS84⟩
 dsimp only [jnO] at hk6
 unfold qf7 at hk6
 simp only [qf,qe,qh,qa,qx,B0,reduceIte,reduceEqDiff]
 have he:=qj hk6
 subst he
 simp only [qw,B0,reduceIte,reduceEqDiff]
 exact rfl
theorem qb6 {W:Nat→Bool}{h:Heap} (hW:∀ b,
  (geL h.length) b→W b=true) (l_0:List Int) (n_1:Int) (r:Bool) (hF:uf l_0 n_1=some r) : Ret E W 84 [lst cI l_0,
  .int .i64 n_1] h (fun v h'=>cut h.length h' E.sz false 9 v=some (.bool r)):=by
 refine Ret.of (fn:=x84) rfl (Run.of ?_)
 unfold uf at hF
 have zf0:zd [lst cI l_0,.int .i64 n_1] 0=lst cI l_0:=rfl
 have zf1:zd [lst cI l_0,.int .i64 n_1] 1 = .int .i64 n_1:=rfl
 generalize zd [lst cI l_0,.int .i64 n_1]=fr0 at zf0 zf1 ⊢
 have hS:Sep h (geL h.length) []:=Sep.nil h
 simp only [x84,qf,qe,qh,qa,q31,zf0,zq,qb,zw,B0,reduceIte,reduceEqDiff]
 obtain ⟨oc3,hX5,hk6⟩:=jl hF
 simp only [q2l]
 refine yf (σ:=Unit) l_0 (fun i1 x2 _=>qc5 n_1 i1 x2 ) (fun s fr' h'=>fr' 1 = .int .i64 n_1∧fr' 7=lst cI l_0∧Sep h' (geL h.length) ([])) hX5 ⟨zf1,
   rfl,hS⟩ (by simp only [B0,reduceIte,reduceEqDiff]) (by simp only [B0,reduceIte,
   reduceEqDiff]) (fun _ _ _ h=>h) rfl rfl (fun _ _ _ _ h=>h) (fun _ _ _ _ h=>h) (fun _ _ _ _ h=>h) (by decide) ?_ ?_
 ·rintro i1 x2 _ fr15 h16 hx20 ⟨f18,f19,hS17⟩ f21 f22 oc4 hF7 hr8 Q9 hN10 hB14 hK11 hR12 hE13
  unfold qc5 at hF7
  simp only [qw8,qf,qe,f19,f21,z1,B0,reduceIte,reduceEqDiff]
  refine qi (v := .ref (cI x2) 0) (ye hx20 rfl) ?_
  simp only [ql,B0,reduceIte,reduceEqDiff]
  refine qi (v := .int .i64 x2) rfl ?_
  simp only [qh,qa,qyu,qf,qe,f18,qs,qb,jb,qy,B0,reduceIte,reduceEqDiff]
  refine qu (t:=(decide (x2=n_1))) (fun hc23=>?_) (fun hc23=>?_)
  ·rw [iteT hc23] at hF7
   simp only [qf,qe,qh,qa,qx,B0,reduceIte,reduceEqDiff]
   have e24:=qj hF7
   subst e24
   have ho25:=hr8 _ rfl
   have hk26:=hk6
   rw [ho25] at hk26
   dsimp only [jnO] at hk26
   apply hR12
   have he:=qj hk26
   subst he
   simp only [qw,B0,reduceIte,reduceEqDiff]
   exact rfl
  rw [iteF hc23] at hF7
  simp only [za,qo,B0,reduceIte,reduceEqDiff]
  have e27:=qj hF7
  exact hN10 _ _ _ e27.symm ⟨f18,f19,hS17⟩ (f21) (f22)
 rintro _ fr29 h30 rfl ⟨f32,f33,hS31⟩
 dsimp only [jnO] at hk6
 unfold qhq at hk6
 simp only [qf,qe,qh,qa,qx,B0,reduceIte,reduceEqDiff]
 have he:=qj hk6
 subst he
 simp only [qw,B0,reduceIte,reduceEqDiff]
 exact rfl
theorem qga {W:Nat→Bool}{h:Heap} (hW:∀ b,
  (geL h.length) b→W b=true) (c_0:Control) (l_1:List Int) (r:Int) (hF:qab c_0 l_1=some r) : Ret E W 85 [.agg [lst qg c_0.Brokers,
  lst qd c_0.Parts,.int .i64 c_0.Next],lst cI l_1] h (fun v h'=>cut h.length h' E.sz false 9 v=some (.int .i64 r)):=by
 refine Ret.of (fn:=x85) rfl (Run.of ?_)
 unfold qab at hF
 have zf0:zd [.agg [lst qg c_0.Brokers,lst qd c_0.Parts,.int .i64 c_0.Next],lst cI l_1] 0 = .agg [lst qg c_0.Brokers,
   lst qd c_0.Parts,.int .i64 c_0.Next]:=rfl
 have zf1:zd [.agg [lst qg c_0.Brokers,lst qd c_0.Parts,.int .i64 c_0.Next],lst cI l_1] 1=lst cI l_1:=rfl
 generalize zd [.agg [lst qg c_0.Brokers,lst qd c_0.Parts,.int .i64 c_0.Next],lst cI l_1]=fr0 at zf0 zf1 ⊢
 have hS:Sep h (geL h.length) []:=Sep.nil h
 simp only [x85,qf,qe,ja,zf0,B0,reduceIte,reduceEqDiff]
 refine z0 (cs:=[lst qg c_0.Brokers,lst qd c_0.Parts,.int .i64 c_0.Next]) hS rfl rfl rfl (fun b1 h2 hS3=>?_)
 simp only [qh,qa,B0,reduceIte,reduceEqDiff]
 refine zn hS3 hW (by simp only [B0,reduceIte,reduceEqDiff]) (fun h5 hS6=>?_)
 simp only [zo,q2m,qf,qe,zf1,qh,zq,qb,zw,qa,B0,reduceIte,reduceEqDiff]
 obtain ⟨oc9,hX11,hk12⟩:=jl hF
 simp only [q1w]
 refine yf (σ:=Unit) l_1 (fun i7 x8 _=>yb c_0 i7 x8 ) (fun s fr' h'=>fr' 2 = .ref [lst qg c_0.Brokers,lst qd c_0.Parts,
   .int .i64 c_0.Next] 0∧fr' 7=lst cI l_1∧Sep h' (geL h.length) ([])) hX11 ⟨rfl,rfl,hS6⟩ (by simp only [B0,reduceIte,reduceEqDiff]) (by simp only [B0,reduceIte,
   reduceEqDiff]) (fun _ _ _ h=>h) rfl rfl (fun _ _ _ _ h=>h) (fun _ _ _ _ h=>h) (fun _ _ _ _ h=>h) (by decide) ?_ ?_
 ·rintro i7 x8 _ fr21 h22 hx26 ⟨f24,f25,hS23⟩ f27 f28 oc10 hF13 hr14 Q15 hN16 hB20 hK17 hR18 hE19
  unfold yb at hF13
  simp only [qzy,qf,qe,f25,f27,z1,B0,reduceIte,reduceEqDiff]
  refine qi (v := .ref (cI x8) 0) (ye hx26 rfl) ?_
  simp only [ql,B0,reduceIte,reduceEqDiff]
  refine qi (v := .int .i64 x8) rfl ?_
  simp only [qh,qa,q06,qf,qe,f24,qn,qb,Nat.reduceAdd,Nat.zero_add,Nat.add_zero,qq,ql,B0,reduceIte,reduceEqDiff]
  refine qi (v:=lst qg c_0.Brokers) rfl ?_
  obtain ⟨x29,hx30,hF31⟩:=qm hF13
  simp only [qh,z1,B0,reduceIte,reduceEqDiff]
  refine qi (v := .ref (qg x29) 0) (kc hx30 rfl) ?_
  simp only [qn,qb,Nat.reduceAdd,Nat.zero_add,Nat.add_zero,qq,ql,B0,reduceIte,reduceEqDiff]
  refine qi (v := .bool x29.Fenced) rfl ?_
  simp only [ji,qb,j5,qa,qy0,qy,B0,reduceIte,reduceEqDiff]
  refine qu (t:=(!x29.Fenced)) (fun hc32=>?_) (fun hc32=>?_)
  ·rw [iteT hc32] at hF31
   simp only [qf,qe,qh,qa,qx,B0,reduceIte,reduceEqDiff]
   have e33:=qj hF31
   subst e33
   have ho34:=hr14 _ rfl
   have hk35:=hk12
   rw [ho34] at hk35
   dsimp only [jnO] at hk35
   apply hR18
   have he:=qj hk35
   subst he
   simp only [qw,B0,reduceIte,reduceEqDiff]
   exact rfl
  rw [iteF hc32] at hF31
  simp only [za,qo,B0,reduceIte,reduceEqDiff]
  have e36:=qj hF31
  exact hN16 _ _ _ e36.symm ⟨f24,f25,hS23⟩ (f27) (f28)
 rintro _ fr38 h39 rfl ⟨f41,f42,hS40⟩
 dsimp only [jnO] at hk12
 unfold qft at hk12
 simp only [qf,qe,qh,qa,qx,B0,reduceIte,reduceEqDiff]
 have he:=qj hk12
 subst he
 simp only [qw,B0,reduceIte,reduceEqDiff]
 exact rfl
theorem qiq {W:Nat→Bool}{h:Heap} (hW:∀ b,
  (geL h.length) b→W b=true) (a_0:List Int) (b_1:List Int) (r:Bool) (hF:qcn a_0 b_1=some r) : Ret E W 86 [lst cI a_0,
  lst cI b_1] h (fun v h'=>cut h.length h' E.sz false 9 v=some (.bool r)):=by
 refine Ret.of (fn:=x86) rfl (Run.of ?_)
 unfold qcn at hF
 have zf0:zd [lst cI a_0,lst cI b_1] 0=lst cI a_0:=rfl
 have zf1:zd [lst cI a_0,lst cI b_1] 1=lst cI b_1:=rfl
 generalize zd [lst cI a_0,lst cI b_1]=fr0 at zf0 zf1 ⊢
 have hS:Sep h (geL h.length) []:=Sep.nil h
 simp only [x86,qf,qe,qh,qa,qz4,zf1,zq,qb,zw,B0,reduceIte,reduceEqDiff]
 obtain ⟨oc3,hX5,hk6⟩:=jl hF
 simp only [qx8]
 refine yf (σ:=Unit) b_1 (fun i1 x2 _=>qc7 a_0 i1 x2 ) (fun s fr' h'=>fr' 0=lst cI a_0∧fr' 7=lst cI b_1∧Sep h' (geL h.length) ([])) hX5 ⟨zf0,rfl,
   hS⟩ (by simp only [B0,reduceIte,reduceEqDiff]) (by simp only [B0,reduceIte,
   reduceEqDiff]) (fun _ _ _ h=>h) rfl rfl (fun _ _ _ _ h=>h) (fun _ _ _ _ h=>h) (fun _ _ _ _ h=>h) (by decide) ?_ ?_
 ·rintro i1 x2 _ fr15 h16 hx20 ⟨f18,f19,hS17⟩ f21 f22 oc4 hF7 hr8 Q9 hN10 hB14 hK11 hR12 hE13
  unfold qc7 at hF7
  simp only [qy2,qf,qe,f19,f21,z1,B0,reduceIte,reduceEqDiff]
  refine qi (v := .ref (cI x2) 0) (ye hx20 rfl) ?_
  simp only [ql,B0,reduceIte,reduceEqDiff]
  refine qi (v := .int .i64 x2) rfl ?_
  obtain ⟨v23,hx24,hF25⟩:=qm hF7
  simp only [qh,qa,q07,qf,qe,f18,zg,B0,reduceIte,reduceEqDiff]
  refine z5 rfl (qk zh (qk qp ze)) (qb6 (fun b hb=>decide_eq_true hb) a_0 x2 v23 hx24) ?_
  simp only [ji,qb,j5,qa,qy,B0,reduceIte,reduceEqDiff]
  refine qu (t:=(!v23)) (fun hc26=>?_) (fun hc26=>?_)
  ·rw [iteT hc26] at hF25
   simp only [qf,qe,qh,qa,qx,B0,reduceIte,reduceEqDiff]
   have e27:=qj hF25
   subst e27
   have ho28:=hr8 _ rfl
   have hk29:=hk6
   rw [ho28] at hk29
   dsimp only [jnO] at hk29
   apply hR12
   have he:=qj hk29
   subst he
   simp only [qw,B0,reduceIte,reduceEqDiff]
   exact rfl
  rw [iteF hc26] at hF25
  simp only [za,qo,B0,reduceIte,reduceEqDiff]
  have e30:=qj hF25
  exact hN10 _ _ _ e30.symm ⟨f18,f19,hS17⟩ (f21) (f22)
 rintro _ fr32 h33 rfl ⟨f35,f36,hS34⟩
 dsimp only [jnO] at hk6
 unfold qhj at hk6
 simp only [qf,qe,qh,qa,qx,B0,reduceIte,reduceEqDiff]
 have he:=qj hk6
 subst he
 simp only [qw,B0,reduceIte,reduceEqDiff]
 exact rfl
theorem qkr {W:Nat→Bool}{h:Heap} (hW:∀ b,
  (geL h.length) b→W b=true) (v_0:Control) (v_1:Partition) (r:Bool) (hF:qb5 v_0 v_1=some r) : Ret E W 59 [.agg [lst qg v_0.Brokers,
  lst qd v_0.Parts,.int .i64 v_0.Next],.agg [lst cI v_1.Homes,lst cI v_1.InStep,.int .i64 v_1.Leader,.int .i64 v_1.Epoch,
  .int .i64 v_1.Stamp]] h (fun v h'=>cut h.length h' E.sz false 9 v=some (.bool r)):=by
 refine Ret.of (fn:=x59) rfl (Run.of ?_)
 unfold qb5 at hF
 have zf0:zd [.agg [lst qg v_0.Brokers,lst qd v_0.Parts,.int .i64 v_0.Next],.agg [lst cI v_1.Homes,lst cI v_1.InStep,.int .i64 v_1.Leader,
   .int .i64 v_1.Epoch,.int .i64 v_1.Stamp]] 0 = .agg [lst qg v_0.Brokers,lst qd v_0.Parts,.int .i64 v_0.Next]:=rfl
 have zf1:zd [.agg [lst qg v_0.Brokers,lst qd v_0.Parts,.int .i64 v_0.Next],.agg [lst cI v_1.Homes,lst cI v_1.InStep,.int .i64 v_1.Leader,
   .int .i64 v_1.Epoch,.int .i64 v_1.Stamp]] 1 = .agg [lst cI v_1.Homes,lst cI v_1.InStep,.int .i64 v_1.Leader,.int .i64 v_1.Epoch,.int .i64 v_1.Stamp]:=rfl
 generalize zd [.agg [lst qg v_0.Brokers,lst qd v_0.Parts,.int .i64 v_0.Next],.agg [lst cI v_1.Homes,lst cI v_1.InStep,.int .i64 v_1.Leader,
   .int .i64 v_1.Epoch,.int .i64 v_1.Stamp]]=fr0 at zf0 zf1 ⊢
 have hS:Sep h (geL h.length) []:=Sep.nil h
 simp only [x59,qf,qe,ja,zf0,B0,reduceIte,reduceEqDiff]
 refine z0 (cs:=[lst qg v_0.Brokers,lst qd v_0.Parts,.int .i64 v_0.Next]) hS rfl rfl rfl (fun b1 h2 hS3=>?_)
 simp only [ja,zf1,B0,reduceIte,reduceEqDiff]
 refine z0 (cs:=[lst cI v_1.Homes,lst cI v_1.InStep,.int .i64 v_1.Leader,.int .i64 v_1.Epoch,.int .i64 v_1.Stamp]) hS3 rfl rfl rfl (fun b5 h6 hS7=>?_)
 simp only [qh,qa,B0,reduceIte,reduceEqDiff]
 refine zn (Sep.m1 hS7) hW (by simp only [B0,reduceIte,reduceEqDiff]) (fun h9 hS10=>?_)
 refine zn hS10 hW (by simp only [B0,reduceIte,reduceEqDiff]) (fun h11 hS12=>?_)
 simp only [zo,q2w,qf,qe,qn,qb,Nat.reduceAdd,Nat.zero_add,Nat.add_zero,qq,ql,B0,reduceIte,reduceEqDiff]
 refine qi (v:=lst cI v_1.Homes) rfl ?_
 simp only [zq,qb,zw,qs,jb,qh,B0,reduceIte,reduceEqDiff]
 obtain ⟨v16,hx17,hF18⟩:=qm hF
 refine zt 8 (fun fr' h'=>Sep h' (geL h.length) ([])∧fr' 17 = .bool v16∧fr' 2 = .ref [lst qg v_0.Brokers,lst qd v_0.Parts,
   .int .i64 v_0.Next] 0∧fr' 3 = .ref [lst cI v_1.Homes,lst cI v_1.InStep,.int .i64 v_1.Leader,.int .i64 v_1.Epoch,.int .i64 v_1.Stamp] 0) (fun Q13 hN14=>?_) ?_
 ·simp only [List.take_succ_cons,List.take_zero]
  simp only [qc (g:=9),B0,reduceIte,reduceEqDiff]
  refine q9 (t:=(decide ((List.length v_1.Homes:Int)=0))) (fun hg15=>?_) (fun hg15=>?_)
  ·rw [iteT hg15] at hx17
   simp only [hg15,qc (g:=9),zu,qr,qb,zj,qa,qo,B0,reduceIte,reduceEqDiff]
   have e19:=qj hx17
   exact hN14 _ _ ⟨hS12,by rw [←e19]; simp only [B0,reduceIte,reduceEqDiff],rfl,rfl⟩
  ·rw [iteF hg15] at hx17
   simp only [hg15,qc (g:=9),qt,qn,qb,Nat.reduceAdd,Nat.zero_add,Nat.add_zero,qq,ql,B0,reduceIte,reduceEqDiff]
   refine qi (v:=lst cI v_1.Homes) rfl ?_
   simp only [hg15,qc (g:=9),qt,qn,qb,Nat.reduceAdd,Nat.zero_add,Nat.add_zero,qq,ql,B0,reduceIte,reduceEqDiff]
   refine qi (v:=lst qg v_0.Brokers) rfl ?_
   obtain ⟨v20,hx21,hF22⟩:=qm hx17
   simp only [hg15,qc (g:=9),qt,zq,qb,zw,zg,B0,reduceIte,reduceEqDiff]
   refine z5 rfl (qk zh (qk qp ze)) (qcm (fun b hb=>decide_eq_true hb) v_1.Homes (List.length v_0.Brokers:Int) v20 hx21) ?_
   simp only [hg15,qc (g:=9),qt,ji,qb,j5,qr,zi,qa,qo,B0,reduceIte,reduceEqDiff]
   have e23:=qj hF22
   exact hN14 _ _ ⟨hS12,by rw [←e23]; simp only [B0,reduceIte,reduceEqDiff],rfl,rfl⟩
 rintro fr24 h28 ⟨hS29,f25,f26,f27⟩
 simp only [List.drop_succ_cons,List.drop_zero]
 simp only [f25,qh,B0,reduceIte,reduceEqDiff]
 refine zt 5 (fun fr' h'=>Sep h' (geL h.length) ([])∧fr' 23 = .bool (v16||(decide ((List.length v_1.InStep:Int)=0)))∧fr' 2 = .ref [lst qg v_0.Brokers,
   lst qd v_0.Parts,.int .i64 v_0.Next] 0∧fr' 3 = .ref [lst cI v_1.Homes,lst cI v_1.InStep,.int .i64 v_1.Leader,.int .i64 v_1.Epoch,
   .int .i64 v_1.Stamp] 0) (fun Q30 hN31=>?_) ?_
 ·simp only [List.take_succ_cons,List.take_zero]
  simp only [qc (g:=18),B0,reduceIte,reduceEqDiff]
  refine q9 (t:=v16) (fun hg32=>?_) (fun hg32=>?_)
  ·simp only [hg32,qc (g:=18),zu,qr,qb,zj,qa,qo,B0,reduceIte,reduceEqDiff]
   exact hN31 _ _ ⟨hS29,by rw [orT hg32]; simp only [B0,reduceIte,reduceEqDiff],f26,f27⟩
  ·simp only [hg32,qc (g:=18),qt,f27,qn,qb,Nat.reduceAdd,Nat.zero_add,Nat.add_zero,qq,ql,B0,reduceIte,reduceEqDiff]
   refine qi (v:=lst cI v_1.InStep) rfl ?_
   simp only [hg32,qc (g:=18),qt,zq,qb,zw,qs,jb,qr,zi,qa,qo,B0,reduceIte,reduceEqDiff]
   exact hN31 _ _ ⟨hS29,by rw [orF hg32]; simp only [B0,reduceIte,reduceEqDiff],f26,f27⟩
 rintro fr33 h37 ⟨hS38,f34,f35,f36⟩
 simp only [List.drop_succ_cons,List.drop_zero]
 simp only [f34,qh,B0,reduceIte,reduceEqDiff]
 obtain ⟨v42,hx43,hF44⟩:=qm hF18
 refine zt 8 (fun fr' h'=>Sep h' (geL h.length) ([])∧fr' 32 = .bool v42∧fr' 2 = .ref [lst qg v_0.Brokers,lst qd v_0.Parts,
   .int .i64 v_0.Next] 0∧fr' 3 = .ref [lst cI v_1.Homes,lst cI v_1.InStep,.int .i64 v_1.Leader,.int .i64 v_1.Epoch,.int .i64 v_1.Stamp] 0) (fun Q39 hN40=>?_) ?_
 ·simp only [List.take_succ_cons,List.take_zero]
  simp only [qc (g:=24),B0,reduceIte,reduceEqDiff]
  refine q9 (t:=(v16||(decide ((List.length v_1.InStep:Int)=0)))) (fun hg41=>?_) (fun hg41=>?_)
  ·rw [iteT hg41] at hx43
   simp only [hg41,qc (g:=24),zu,qr,qb,zj,qa,qo,B0,reduceIte,reduceEqDiff]
   have e45:=qj hx43
   exact hN40 _ _ ⟨hS38,by rw [←e45]; simp only [B0,reduceIte,reduceEqDiff],f35,f36⟩
  ·rw [iteF hg41] at hx43
   simp only [hg41,qc (g:=24),qt,f36,qn,qb,Nat.reduceAdd,Nat.zero_add,Nat.add_zero,qq,ql,B0,reduceIte,reduceEqDiff]
   refine qi (v:=lst cI v_1.InStep) rfl ?_
   simp only [hg41,qc (g:=24),qt,f35,qn,qb,Nat.reduceAdd,Nat.zero_add,Nat.add_zero,qq,ql,B0,reduceIte,reduceEqDiff]
   refine qi (v:=lst qg v_0.Brokers) rfl ?_
   obtain ⟨v46,hx47,hF48⟩:=qm hx43
   simp only [hg41,qc (g:=24),qt,zq,qb,zw,zg,B0,reduceIte,reduceEqDiff]
   refine z5 rfl (qk zh (qk qp ze)) (qcm (fun b hb=>decide_eq_true hb) v_1.InStep (List.length v_0.Brokers:Int) v46 hx47) ?_
   simp only [hg41,qc (g:=24),qt,ji,qb,j5,qr,zi,qa,qo,B0,reduceIte,reduceEqDiff]
   have e49:=qj hF48
   exact hN40 _ _ ⟨hS38,by rw [←e49]; simp only [B0,reduceIte,reduceEqDiff],f35,f36⟩
 rintro fr50 h54 ⟨hS55,f51,f52,f53⟩
 simp only [List.drop_succ_cons,List.drop_zero]
 simp only [f51,qh,B0,reduceIte,reduceEqDiff]
 obtain ⟨v59,hx60,hF61⟩:=qm hF44
 refine zt 7 (fun fr' h'=>Sep h' (geL h.length) ([])∧fr' 40 = .bool v59∧fr' 2 = .ref [lst qg v_0.Brokers,lst qd v_0.Parts,
   .int .i64 v_0.Next] 0∧fr' 3 = .ref [lst cI v_1.Homes,lst cI v_1.InStep,.int .i64 v_1.Leader,.int .i64 v_1.Epoch,.int .i64 v_1.Stamp] 0) (fun Q56 hN57=>?_) ?_
 ·simp only [List.take_succ_cons,List.take_zero]
  simp only [qc (g:=33),B0,reduceIte,reduceEqDiff]
  refine q9 (t:=v42) (fun hg58=>?_) (fun hg58=>?_)
  ·rw [iteT hg58] at hx60
   simp only [hg58,qc (g:=33),zu,qr,qb,zj,qa,qo,B0,reduceIte,reduceEqDiff]
   have e62:=qj hx60
   exact hN57 _ _ ⟨hS55,by rw [←e62]; simp only [B0,reduceIte,reduceEqDiff],f52,f53⟩
  ·rw [iteF hg58] at hx60
   simp only [hg58,qc (g:=33),qt,f53,qn,qb,Nat.reduceAdd,Nat.zero_add,Nat.add_zero,qq,ql,B0,reduceIte,reduceEqDiff]
   refine qi (v:=lst cI v_1.Homes) rfl ?_
   simp only [hg58,qc (g:=33),qt,f53,qn,qb,Nat.reduceAdd,Nat.zero_add,Nat.add_zero,qq,ql,B0,reduceIte,reduceEqDiff]
   refine qi (v:=lst cI v_1.InStep) rfl ?_
   obtain ⟨v63,hx64,hF65⟩:=qm hx60
   simp only [hg58,qc (g:=33),qt,zg,B0,reduceIte,reduceEqDiff]
   refine z5 rfl (qk zh (qk zh ze)) (qiq (fun b hb=>decide_eq_true hb) v_1.Homes v_1.InStep v63 hx64) ?_
   simp only [hg58,qc (g:=33),qt,ji,qb,j5,qr,zi,qa,qo,B0,reduceIte,reduceEqDiff]
   have e66:=qj hF65
   exact hN57 _ _ ⟨hS55,by rw [←e66]; simp only [B0,reduceIte,reduceEqDiff],f52,f53⟩
 rintro fr67 h71 ⟨hS72,f68,f69,f70⟩
 simp only [List.drop_succ_cons,List.drop_zero]
 simp only [qa,f68,qy,B0,reduceIte,reduceEqDiff]
 refine qu (t:=v59) (fun hc73=>?_) (fun hc73=>?_)
 ·rw [iteT hc73] at hF61
  simp only [qf,qe,qh,qa,qx,B0,reduceIte,reduceEqDiff]
  have he:=qj hF61
  subst he
  simp only [qw,B0,reduceIte,reduceEqDiff]
  exact rfl
 rw [iteF hc73] at hF61
 simp only [za,qyw,qf,qe,f70,qn,qb,Nat.reduceAdd,Nat.zero_add,Nat.add_zero,qq,ql,B0,reduceIte,reduceEqDiff]
 refine qi (v := .int .i64 v_1.Leader) rfl ?_
 simp only [qs,qb,jb,qh,B0,reduceIte,reduceEqDiff]
 obtain ⟨v77,hx78,hF79⟩:=qm hF61
 refine zt 6 (fun fr' h'=>Sep h' (geL h.length) ([])∧fr' 50 = .bool v77∧fr' 2 = .ref [lst qg v_0.Brokers,lst qd v_0.Parts,
   .int .i64 v_0.Next] 0∧fr' 3 = .ref [lst cI v_1.Homes,lst cI v_1.InStep,.int .i64 v_1.Leader,.int .i64 v_1.Epoch,.int .i64 v_1.Stamp] 0) (fun Q74 hN75=>?_) ?_
 ·simp only [List.take_succ_cons,List.take_zero]
  simp only [qc (g:=44),B0,reduceIte,reduceEqDiff]
  refine q9 (t:=(decide (v_1.Leader=(-1)))) (fun hg76=>?_) (fun hg76=>?_)
  ·rw [iteT hg76] at hx78
   simp only [hg76,qc (g:=44),q8,f69,ql,B0,reduceIte,reduceEqDiff]
   refine qi (v := .agg [lst qg v_0.Brokers,lst qd v_0.Parts,.int .i64 v_0.Next]) rfl ?_
   simp only [hg76,qc (g:=44),q8,f70,qn,qb,Nat.reduceAdd,Nat.zero_add,Nat.add_zero,qq,ql,B0,reduceIte,reduceEqDiff]
   refine qi (v:=lst cI v_1.InStep) rfl ?_
   obtain ⟨v80,hx81,hF82⟩:=qm hx78
   simp only [hg76,qc (g:=44),q8,zg,B0,reduceIte,reduceEqDiff]
   refine z5 rfl (qk (zv (qk zh (qk zh (qk qp ze)))) (qk zh ze)) (qga
     (fun b hb=>decide_eq_true hb) v_0 v_1.InStep v80 hx81) ?_
   simp only [hg76,qc (g:=44),q8,qs,qb,qcr,qr,zj,qa,qo,B0,reduceIte,reduceEqDiff]
   have e83:=qj hF82
   exact hN75 _ _ ⟨hS72,by rw [←e83]; simp only [B0,reduceIte,reduceEqDiff],f69,f70⟩
  ·rw [iteF hg76] at hx78
   simp only [hg76,qc (g:=44),zz,qr,qb,zi,qa,qo,B0,reduceIte,reduceEqDiff]
   have e84:=qj hx78
   exact hN75 _ _ ⟨hS72,by rw [←e84]; simp only [B0,reduceIte,reduceEqDiff],f69,f70⟩
 rintro fr85 h89 ⟨hS90,f86,f87,f88⟩
 simp only [List.drop_succ_cons,List.drop_zero]
 simp only [f86,qh,B0,reduceIte,reduceEqDiff]
 obtain ⟨v94,hx95,hF96⟩:=qm hF79
 refine zt 21 (fun fr' h'=>Sep h' (geL h.length) ([])∧fr' 72 = .bool v94∧fr' 3 = .ref [lst cI v_1.Homes,lst cI v_1.InStep,.int .i64 v_1.Leader,.int .i64 v_1.Epoch,
   .int .i64 v_1.Stamp] 0) (fun Q91 hN92=>?_) ?_
 ·simp only [List.take_succ_cons,List.take_zero]
  simp only [qc (g:=51),B0,reduceIte,reduceEqDiff]
  refine q9 (t:=v77) (fun hg93=>?_) (fun hg93=>?_)
  ·rw [iteT hg93] at hx95
   simp only [hg93,qc (g:=51),zu,qc (g:=55),qbg,qc (g:=62),qr,qb,zj,qa,qo,B0,reduceIte,
     reduceEqDiff]
   have e97:=qj hx95
   exact hN92 _ _ ⟨hS90,by rw [←e97]; simp only [B0,reduceIte,reduceEqDiff],f88⟩
  ·rw [iteF hg93] at hx95
   simp only [hg93,qc (g:=51),qt,f88,qn,qb,Nat.reduceAdd,Nat.zero_add,Nat.add_zero,qq,ql,B0,reduceIte,reduceEqDiff]
   refine qi (v := .int .i64 v_1.Leader) rfl ?_
   simp only [hg93,qc (g:=51),qt,qs,qb,kh,qh,B0,reduceIte,reduceEqDiff]
   obtain ⟨v101,hx102,hF103⟩:=qm hx95
   refine zt 16 (fun fr' h'=>Sep h' (geL h.length) ([])∧fr' 71 = .bool v101∧fr' 3 = .ref [lst cI v_1.Homes,lst cI v_1.InStep,.int .i64 v_1.Leader,
     .int .i64 v_1.Epoch,.int .i64 v_1.Stamp] 0∧fr' 51 = .bool v77) (fun Q98 hN99=>?_) ?_
   ·simp only [List.take_succ_cons,List.take_zero]
    simp only [qc (g:=55),B0,reduceIte,reduceEqDiff]
    refine q9 (t:=(decide (v_1.Leader≠(-1)))) (fun hg100=>?_) (fun hg100=>?_)
    ·rw [iteT hg100] at hx102
     simp only [hg100,qc (g:=55),q8,f88,qn,qb,Nat.reduceAdd,Nat.zero_add,Nat.add_zero,qq,ql,B0,reduceIte,reduceEqDiff]
     refine qi (v:=lst cI v_1.InStep) rfl ?_
     simp only [hg100,qc (g:=55),q8,f88,qn,qb,Nat.reduceAdd,Nat.zero_add,Nat.add_zero,qq,ql,B0,reduceIte,reduceEqDiff]
     refine qi (v := .int .i64 v_1.Leader) rfl ?_
     obtain ⟨v104,hx105,hF106⟩:=qm hx102
     simp only [hg100,qc (g:=55),q8,zg,B0,reduceIte,reduceEqDiff]
     refine z5 rfl (qk zh (qk qp ze)) (qb6 (fun b hb=>decide_eq_true hb) v_1.InStep v_1.Leader v104 hx105) ?_
     simp only [hg100,qc (g:=55),q8,ji,qb,j5,qh,B0,reduceIte,reduceEqDiff]
     obtain ⟨v110,hx111,hF112⟩:=qm hF106
     refine zt 8 (fun fr' h'=>Sep h' (geL h.length) ([])∧fr' 70 = .bool v110∧fr' 3 = .ref [lst cI v_1.Homes,lst cI v_1.InStep,.int .i64 v_1.Leader,
       .int .i64 v_1.Epoch,.int .i64 v_1.Stamp] 0∧fr' 51 = .bool v77∧fr' 55 = .bool (decide (v_1.Leader≠(-1)))) (fun Q107 hN108=>?_) ?_
     ·simp only [List.take_succ_cons,List.take_zero]
      simp only [qc (g:=62),B0,reduceIte,reduceEqDiff]
      refine q9 (t:=(!v104)) (fun hg109=>?_) (fun hg109=>?_)
      ·rw [iteT hg109] at hx111
       simp only [hg109,qc (g:=62),zu,hg100,qc (g:=55),q8,qr,qb,zj,qa,qo,B0,reduceIte,
         reduceEqDiff]
       have e113:=qj hx111
       exact hN108 _ _ ⟨hS90,by rw [←e113]; simp only [B0,reduceIte,reduceEqDiff],f88,by simp only [hg93,B0,reduceIte,reduceEqDiff],by simp only [hg100,B0,
         reduceIte,reduceEqDiff]⟩
      ·rw [iteF hg109] at hx111
       simp only [hg109,qc (g:=62),qt,f87,qn,qb,Nat.reduceAdd,Nat.zero_add,Nat.add_zero,qq,ql,B0,reduceIte,reduceEqDiff]
       refine qi (v:=lst qg v_0.Brokers) rfl ?_
       simp only [hg109,qc (g:=62),qt,f88,qn,qb,Nat.reduceAdd,Nat.zero_add,Nat.add_zero,qq,ql,B0,reduceIte,reduceEqDiff]
       refine qi (v := .int .i64 v_1.Leader) rfl ?_
       obtain ⟨x114,hx115,hF116⟩:=qm hx111
       simp only [hg109,qc (g:=62),qt,z1,B0,reduceIte,reduceEqDiff]
       refine qi (v := .ref (qg x114) 0) (kc hx115 rfl) ?_
       simp only [hg109,qc (g:=62),qt,qn,qb,Nat.reduceAdd,Nat.zero_add,Nat.add_zero,qq,ql,B0,reduceIte,reduceEqDiff]
       refine qi (v := .bool x114.Fenced) rfl ?_
       simp only [hg100,qc (g:=55),q8,hg109,qr,qb,zi,qa,qo,B0,reduceIte,reduceEqDiff]
       have e117:=qj hF116
       exact hN108 _ _ ⟨hS90,by rw [←e117]; simp only [B0,reduceIte,reduceEqDiff],f88,by simp only [hg93,B0,reduceIte,reduceEqDiff],by simp only [hg100,B0,
         reduceIte,reduceEqDiff]⟩
     rintro fr118 h123 ⟨hS124,f119,f120,f121,f122⟩
     simp only [List.drop_succ_cons,List.drop_zero]
     simp only [f121,hg93,qc (g:=51),qt,f122,hg100,qr,qb,zj,f119,qa,qo,B0,reduceIte,reduceEqDiff]
     have e125:=qj hF112
     exact hN99 _ _ ⟨hS124,by rw [←e125]; simp only [B0,reduceIte,reduceEqDiff],f120,by simp only [f121,hg93,B0,reduceIte,reduceEqDiff]⟩
    ·rw [iteF hg100] at hx102
     simp only [hg100,qc (g:=55),zz,qc (g:=62),qbg,hg93,qc (g:=51),qt,qr,qb,zi,qa,
       qo,B0,reduceIte,reduceEqDiff]
     have e126:=qj hx102
     exact hN99 _ _ ⟨hS90,by rw [←e126]; simp only [B0,reduceIte,reduceEqDiff],f88,by simp only [hg93,B0,reduceIte,reduceEqDiff]⟩
   rintro fr127 h131 ⟨hS132,f128,f129,f130⟩
   simp only [List.drop_succ_cons,List.drop_zero]
   simp only [f130,hg93,qr,qb,zi,f128,qa,qo,B0,reduceIte,reduceEqDiff]
   have e133:=qj hF103
   exact hN92 _ _ ⟨hS132,by rw [←e133]; simp only [B0,reduceIte,reduceEqDiff],f129⟩
 rintro fr134 h137 ⟨hS138,f135,f136⟩
 simp only [List.drop_succ_cons,List.drop_zero]
 simp only [qa,f135,qy,B0,reduceIte,reduceEqDiff]
 refine qu (t:=v94) (fun hc139=>?_) (fun hc139=>?_)
 ·rw [iteT hc139] at hF96
  simp only [qf,qe,qh,qa,qx,B0,reduceIte,reduceEqDiff]
  have he:=qj hF96
  subst he
  simp only [qw,B0,reduceIte,reduceEqDiff]
  exact rfl
 rw [iteF hc139] at hF96
 simp only [za,q3w,qf,qe,f136,qn,qb,Nat.reduceAdd,Nat.zero_add,Nat.add_zero,qq,ql,B0,reduceIte,reduceEqDiff]
 refine qi (v := .int .i64 v_1.Epoch) rfl ?_
 simp only [zg,B0,reduceIte,reduceEqDiff]
 refine z5 rfl (qk qp (qk qp (qk qp ze))) (wc (fun b hb=>decide_eq_true hb) v_1.Epoch 0 1000 _ rfl) ?_
 simp only [qh,B0,reduceIte,reduceEqDiff]
 refine zt 4 (fun fr' h'=>Sep h' (geL h.length) ([])∧fr' 80 = .bool ((zl v_1.Epoch 0 1000)&&(zl v_1.Stamp 0 1000))) (fun Q140 hN141=>?_) ?_
 ·simp only [List.take_succ_cons,List.take_zero]
  simp only [qc (g:=76),B0,reduceIte,reduceEqDiff]
  refine q9 (t:=(zl v_1.Epoch 0 1000)) (fun hg142=>?_) (fun hg142=>?_)
  ·simp only [hg142,qc (g:=76),q8,f136,qn,qb,Nat.reduceAdd,Nat.zero_add,Nat.add_zero,qq,ql,B0,reduceIte,reduceEqDiff]
   refine qi (v := .int .i64 v_1.Stamp) rfl ?_
   simp only [hg142,qc (g:=76),q8,zg,B0,reduceIte,reduceEqDiff]
   refine z5 rfl (qk qp (qk qp (qk qp ze))) (wc (fun b hb=>decide_eq_true hb) v_1.Stamp 0 1000 _ rfl) ?_
   simp only [hg142,qr,qb,zj,qa,qo,B0,reduceIte,reduceEqDiff]
   exact hN141 _ _ ⟨hS138,by rw [kw hg142]; simp only [B0,reduceIte,reduceEqDiff]⟩
  ·simp only [hg142,qc (g:=76),zz,qr,qb,zi,qa,qo,B0,reduceIte,reduceEqDiff]
   exact hN141 _ _ ⟨hS138,by rw [kv hg142]; simp only [B0,reduceIte,reduceEqDiff]⟩
 rintro fr143 h145 ⟨hS146,f144⟩
 simp only [List.drop_succ_cons,List.drop_zero]
 simp only [f144,qh,qa,qx,B0,reduceIte,reduceEqDiff]
 have he:=qj hF96
 subst he
 simp only [qw,B0,reduceIte,reduceEqDiff]
 exact rfl
end Go.Proofs.Ytjloihcijdcpeaa.X
namespace Go.Proofs.Ytjloihcijdcpeaa.X
open Go
open Nat (reduceEqDiff)
theorem qeo {W:Nat→Bool}{h:Heap} (hW:∀ b,
  (geL h.length) b→W b=true) (v_0:Control) (r:Bool) (hF:w9 v_0=some r) : Ret E W 20 [.agg [lst qg v_0.Brokers,lst qd v_0.Parts,
  .int .i64 v_0.Next]] h (fun v h'=>cut h.length h' E.sz false 9 v=some (.bool r)):=by
 refine Ret.of (fn:=x20) rfl (Run.of ?_)
 unfold w9 at hF
 have zf0:zd [.agg [lst qg v_0.Brokers,lst qd v_0.Parts,.int .i64 v_0.Next]] 0 = .agg [lst qg v_0.Brokers,lst qd v_0.Parts,
   .int .i64 v_0.Next]:=rfl
 generalize zd [.agg [lst qg v_0.Brokers,lst qd v_0.Parts,.int .i64 v_0.Next]]=fr0 at zf0 ⊢
 have hS:Sep h (geL h.length) []:=Sep.nil h
 simp only [x20,qf,qe,ja,zf0,B0,reduceIte,reduceEqDiff]
 refine z0 (cs:=[lst qg v_0.Brokers,lst qd v_0.Parts,.int .i64 v_0.Next]) hS rfl rfl rfl (fun b1 h2 hS3=>?_)
 simp only [qh,qa,B0,reduceIte,reduceEqDiff]
 refine zn hS3 hW (by simp only [B0,reduceIte,reduceEqDiff]) (fun h5 hS6=>?_)
 simp only [zo,qrh,qf,qe,qn,qb,Nat.reduceAdd,Nat.zero_add,Nat.add_zero,qq,ql,B0,reduceIte,reduceEqDiff]
 refine qi (v:=lst qg v_0.Brokers) rfl ?_
 simp only [zq,qb,zw,qh,qa,B0,reduceIte,reduceEqDiff]
 obtain ⟨oc9,hX11,hk12⟩:=jl hF
 simp only [qz1]
 refine yf (σ:=Unit) v_0.Brokers (fun i7 x8 _=>wt v_0 i7 x8 ) (fun s fr' h'=>fr' 1 = .ref [lst qg v_0.Brokers,
   lst qd v_0.Parts,.int .i64 v_0.Next] 0∧fr' 8=lst qg v_0.Brokers∧Sep h' (geL h.length) ([])) hX11 ⟨rfl,rfl,hS6⟩ (by simp only [B0,reduceIte,
   reduceEqDiff]) (by simp only [B0,reduceIte,reduceEqDiff]) (fun _ _ _ h=>h) rfl rfl (fun _ _ _ _ h=>h) (fun _ _ _ _ h=>h) (fun _ _ _ _ h=>h) (by decide) ?_ ?_
 ·rintro i7 x8 _ fr21 h22 hx26 ⟨f24,f25,hS23⟩ f27 f28 oc10 hF13 hr14 Q15 hN16 hB20 hK17 hR18 hE19
  unfold wt at hF13
  simp only [qyj,qf,qe,f25,f27,z1,B0,reduceIte,reduceEqDiff]
  refine qi (v := .ref (qg x8) 0) (ye hx26 rfl) ?_
  simp only [ql,B0,reduceIte,reduceEqDiff]
  refine qi (v := .agg [.int .i64 x8.Epoch,.int .i64 x8.Left,.bool x8.Fenced]) rfl ?_
  simp only [j6,B0,reduceIte,reduceEqDiff]
  refine jg hS23 (fun b29 h30 hS31=>?_)
  simp only [zm,B0,reduceIte,reduceEqDiff]
  refine zk (us:=[.int .i64 x8.Epoch,.int .i64 x8.Left,.bool x8.Fenced]) rfl (cs':=[.int .i64 x8.Epoch,.int .i64 x8.Left,
    .bool x8.Fenced]) hS31 hW rfl rfl (nle rfl) rfl (fun h33 hS34=>?_)
  simp only [qa,B0,reduceIte,reduceEqDiff]
  refine zn hS34 hW (by simp only [B0,reduceIte,reduceEqDiff]) (fun h35 hS36=>?_)
  simp only [zo,q2d,qf,qe,qn,qb,Nat.reduceAdd,Nat.zero_add,Nat.add_zero,qq,ql,B0,reduceIte,reduceEqDiff]
  refine qi (v := .int .i64 x8.Epoch) rfl ?_
  simp only [qs,qb,k8,qh,B0,reduceIte,reduceEqDiff]
  refine zt 6 (fun fr' h'=>Sep h' (geL h.length) ([])∧fr' 23 = .bool ((decide (x8.Epoch<0))||(decide
    (v_0.Next≤x8.Epoch)))∧fr' 1 = .ref [lst qg v_0.Brokers,lst qd v_0.Parts,.int .i64 v_0.Next] 0∧fr' 4 = .ref [.int .i64 x8.Epoch,
    .int .i64 x8.Left,.bool x8.Fenced] 0∧fr' 8=lst qg v_0.Brokers∧fr' 9 = .int .i64 (List.length v_0.Brokers:Int)∧fr' 10 = .int .i64 (i7:Int))
    (fun Q37 hN38=>?_) ?_
  ·simp only [List.take_succ_cons,List.take_zero]
   simp only [qc (g:=17),B0,reduceIte,reduceEqDiff]
   refine q9 (t:=(decide (x8.Epoch<0))) (fun hg39=>?_) (fun hg39=>?_)
   ·simp only [hg39,qc (g:=17),zu,qr,qb,zj,qa,qo,B0,reduceIte,reduceEqDiff]
    exact hN38 _ _ ⟨hS36,by rw [orT hg39]; simp only [B0,reduceIte,reduceEqDiff],f24,rfl,f25,f28,f27⟩
   ·simp only [hg39,qc (g:=17),qt,qn,qb,Nat.reduceAdd,Nat.zero_add,Nat.add_zero,qq,ql,B0,reduceIte,reduceEqDiff]
    refine qi (v := .int .i64 x8.Epoch) rfl ?_
    simp only [hg39,qc (g:=17),qt,f24,qn,qb,Nat.reduceAdd,Nat.zero_add,Nat.add_zero,qq,ql,B0,reduceIte,reduceEqDiff]
    refine qi (v := .int .i64 v_0.Next) rfl ?_
    simp only [hg39,qc (g:=17),qt,qs,qb,qcr,qr,zi,qa,qo,B0,reduceIte,reduceEqDiff]
    exact hN38 _ _ ⟨hS36,by rw [orF hg39]; simp only [B0,reduceIte,reduceEqDiff],f24,rfl,f25,f28,f27⟩
  rintro fr40 h47 ⟨hS48,f41,f42,f43,f44,f45,f46⟩
  simp only [List.drop_succ_cons,List.drop_zero]
  simp only [f41,qh,B0,reduceIte,reduceEqDiff]
  refine zt 5 (fun fr' h'=>Sep h' (geL h.length) ([])∧fr' 29 = .bool (((decide (x8.Epoch<0))||(decide (v_0.Next≤x8.Epoch))) ||
    (!(zl x8.Left 0 9)))∧fr' 1 = .ref [lst qg v_0.Brokers,lst qd v_0.Parts,.int .i64 v_0.Next] 0∧fr' 4 = .ref [.int .i64 x8.Epoch,
    .int .i64 x8.Left,.bool x8.Fenced] 0∧fr' 8=lst qg v_0.Brokers∧fr' 9 = .int .i64 (List.length v_0.Brokers:Int)∧fr' 10 = .int .i64 (i7:Int))
    (fun Q49 hN50=>?_) ?_
  ·simp only [List.take_succ_cons,List.take_zero]
   simp only [qc (g:=24),B0,reduceIte,reduceEqDiff]
   refine q9 (t:=((decide (x8.Epoch<0))||(decide (v_0.Next≤x8.Epoch)))) (fun hg51=>?_) (fun hg51=>?_)
   ·simp only [hg51,qc (g:=24),zu,qr,qb,zj,qa,qo,B0,reduceIte,reduceEqDiff]
    exact hN50 _ _ ⟨hS48,by rw [orT hg51]; simp only [B0,reduceIte,reduceEqDiff],f42,f43,f44,f45,f46⟩
   ·simp only [hg51,qc (g:=24),qt,f43,qn,qb,Nat.reduceAdd,Nat.zero_add,Nat.add_zero,qq,ql,B0,reduceIte,reduceEqDiff]
    refine qi (v := .int .i64 x8.Left) rfl ?_
    simp only [hg51,qc (g:=24),qt,zg,B0,reduceIte,reduceEqDiff]
    refine z5 rfl (qk qp (qk qp (qk qp ze))) (wc (fun b hb=>decide_eq_true hb) x8.Left 0 9 _ rfl) ?_
    simp only [hg51,qc (g:=24),qt,ji,qb,j5,qr,zi,qa,qo,B0,reduceIte,reduceEqDiff]
    exact hN50 _ _ ⟨hS48,by rw [orF hg51]; simp only [B0,reduceIte,reduceEqDiff],f42,f43,f44,f45,f46⟩
  rintro fr52 h59 ⟨hS60,f53,f54,f55,f56,f57,f58⟩
  simp only [List.drop_succ_cons,List.drop_zero]
  simp only [f53,qh,B0,reduceIte,reduceEqDiff]
  refine zt 7 (fun fr' h'=>Sep h' (geL h.length) ([])∧fr' 37 = .bool ((((decide (x8.Epoch<0))||(decide (v_0.Next≤x8.Epoch)))||(!(zl x8.Left 0 9))) ||
    (!(x8.Fenced == (decide (x8.Left=0)))))∧fr' 1 = .ref [lst qg v_0.Brokers,lst qd v_0.Parts,
    .int .i64 v_0.Next] 0∧fr' 4 = .ref [.int .i64 x8.Epoch,.int .i64 x8.Left,
    .bool x8.Fenced] 0∧fr' 8=lst qg v_0.Brokers∧fr' 9 = .int .i64 (List.length v_0.Brokers:Int)∧fr' 10 = .int .i64 (i7:Int)) (fun Q61 hN62=>?_) ?_
  ·simp only [List.take_succ_cons,List.take_zero]
   simp only [qc (g:=30),B0,reduceIte,reduceEqDiff]
   refine q9 (t:=(((decide (x8.Epoch<0))||(decide (v_0.Next≤x8.Epoch)))||(!(zl x8.Left 0 9)))) (fun hg63=>?_) (fun hg63=>?_)
   ·simp only [hg63,qc (g:=30),zu,qr,qb,zj,qa,qo,B0,reduceIte,reduceEqDiff]
    exact hN62 _ _ ⟨hS60,by rw [orT hg63]; simp only [B0,reduceIte,reduceEqDiff],f54,f55,f56,f57,f58⟩
   ·simp only [hg63,qc (g:=30),qt,f55,qn,qb,Nat.reduceAdd,Nat.zero_add,Nat.add_zero,qq,ql,B0,reduceIte,reduceEqDiff]
    refine qi (v := .bool x8.Fenced) rfl ?_
    simp only [hg63,qc (g:=30),qt,f55,qn,qb,Nat.reduceAdd,Nat.zero_add,Nat.add_zero,qq,ql,B0,reduceIte,reduceEqDiff]
    refine qi (v := .int .i64 x8.Left) rfl ?_
    simp only [hg63,qc (g:=30),qt,qs,qb,jb,qeg,qfp,qr,zi,qa,qo,B0,reduceIte,reduceEqDiff]
    exact hN62 _ _ ⟨hS60,by rw [orF hg63]; simp only [B0,reduceIte,reduceEqDiff],f54,f55,f56,f57,f58⟩
  rintro fr64 h71 ⟨hS72,f65,f66,f67,f68,f69,f70⟩
  simp only [List.drop_succ_cons,List.drop_zero]
  simp only [f65,qh,B0,reduceIte,reduceEqDiff]
  refine zt 9 (fun fr' h'=>Sep h' (geL h.length) ([])∧fr' 47 = .bool (((((decide (x8.Epoch<0))||(decide (v_0.Next≤x8.Epoch)))||(!(zl x8.Left 0 9))) ||
    (!(x8.Fenced == (decide (x8.Left=0)))))||((decide (x8.Epoch=0))&&(decide ((0:Int)<x8.Left))))∧fr' 1 = .ref [lst qg v_0.Brokers,
    lst qd v_0.Parts,.int .i64 v_0.Next] 0∧fr' 8=lst qg v_0.Brokers∧fr' 9 = .int .i64 (List.length v_0.Brokers:Int)∧fr' 10 = .int .i64
    (i7:Int)) (fun Q73 hN74=>?_) ?_
  ·simp only [List.take_succ_cons,List.take_zero]
   simp only [qc (g:=38),B0,reduceIte,reduceEqDiff]
   refine q9 (t:=((((decide (x8.Epoch<0))||(decide (v_0.Next≤x8.Epoch)))||(!(zl x8.Left 0 9)))||(!(x8.Fenced == (decide (x8.Left=0))))))
     (fun hg75=>?_) (fun hg75=>?_)
   ·simp only [hg75,qc (g:=38),zu,qc (g:=42),qbg,qr,qb,zj,qa,qo,B0,reduceIte,reduceEqDiff]
    exact hN74 _ _ ⟨hS72,by rw [orT hg75]; simp only [B0,reduceIte,reduceEqDiff],f66,f68,f69,f70⟩
   ·simp only [hg75,qc (g:=38),qt,f67,qn,qb,Nat.reduceAdd,Nat.zero_add,Nat.add_zero,qq,ql,B0,reduceIte,reduceEqDiff]
    refine qi (v := .int .i64 x8.Epoch) rfl ?_
    simp only [hg75,qc (g:=38),qt,qs,qb,jb,qh,B0,reduceIte,reduceEqDiff]
    refine zt 4 (fun fr' h'=>Sep h' (geL h.length) ([])∧fr' 46 = .bool ((decide (x8.Epoch=0))&&(decide
      ((0:Int)<x8.Left)))∧fr' 1 = .ref [lst qg v_0.Brokers,lst qd v_0.Parts,
      .int .i64 v_0.Next] 0∧fr' 8=lst qg v_0.Brokers∧fr' 9 = .int .i64 (List.length v_0.Brokers:Int)∧fr' 10 = .int .i64 (i7:Int)∧fr' 38 = .bool
      ((((decide (x8.Epoch<0))||(decide (v_0.Next≤x8.Epoch)))||(!(zl x8.Left 0 9)))||(!(x8.Fenced == (decide (x8.Left=0)))))) (fun Q76 hN77=>?_) ?_
    ·simp only [List.take_succ_cons,List.take_zero]
     simp only [qc (g:=42),B0,reduceIte,reduceEqDiff]
     refine q9 (t:=(decide (x8.Epoch=0))) (fun hg78=>?_) (fun hg78=>?_)
     ·simp only [hg78,qc (g:=42),q8,f67,qn,qb,Nat.reduceAdd,Nat.zero_add,Nat.add_zero,qq,ql,B0,reduceIte,reduceEqDiff]
      refine qi (v := .int .i64 x8.Left) rfl ?_
      simp only [hg78,qc (g:=42),q8,qs,qb,qii,hg75,qc (g:=38),qt,qr,zj,qa,qo,B0,
        reduceIte,reduceEqDiff]
      exact hN77 _ _ ⟨hS72,by rw [kw hg78]; simp only [B0,reduceIte,reduceEqDiff],f66,f68,f69,f70,by simp only [hg75,B0,reduceIte,reduceEqDiff]⟩
     ·simp only [hg78,qc (g:=42),zz,hg75,qc (g:=38),qt,qr,qb,zi,qa,qo,B0,reduceIte,
       reduceEqDiff]
      exact hN77 _ _ ⟨hS72,by rw [kv hg78]; simp only [B0,reduceIte,reduceEqDiff],f66,f68,f69,f70,by simp only [hg75,B0,reduceIte,reduceEqDiff]⟩
    rintro fr79 h86 ⟨hS87,f80,f81,f82,f83,f84,f85⟩
    simp only [List.drop_succ_cons,List.drop_zero]
    simp only [f85,hg75,qr,qb,zi,f80,qa,qo,B0,reduceIte,reduceEqDiff]
    exact hN74 _ _ ⟨hS87,by rw [orF hg75]; simp only [B0,reduceIte,reduceEqDiff],f81,f82,f83,f84⟩
  rintro fr88 h94 ⟨hS95,f89,f90,f91,f92,f93⟩
  simp only [List.drop_succ_cons,List.drop_zero]
  simp only [qa,f89,qy,B0,reduceIte,reduceEqDiff]
  refine qu (t:=(((((decide (x8.Epoch<0))||(decide (v_0.Next≤x8.Epoch)))||(!(zl x8.Left 0 9)))||(!(x8.Fenced == (decide (x8.Left=0)))))||((decide
    (x8.Epoch=0))&&(decide ((0:Int)<x8.Left))))) (fun hc96=>?_) (fun hc96=>?_)
  ·rw [iteT hc96] at hF13
   simp only [qf,qe,qh,qa,qx,B0,reduceIte,reduceEqDiff]
   have e97:=qj hF13
   subst e97
   have ho98:=hr14 _ rfl
   have hk99:=hk12
   rw [ho98] at hk99
   dsimp only [jnO] at hk99
   apply hR18
   have he:=qj hk99
   subst he
   simp only [qw,B0,reduceIte,reduceEqDiff]
   exact rfl
  rw [iteF hc96] at hF13
  simp only [za,qo,B0,reduceIte,reduceEqDiff]
  have e100:=qj hF13
  exact hN16 _ _ _ e100.symm ⟨f90,f91,hS95⟩ (f93) (f92)
 rintro _ fr102 h103 rfl ⟨f105,f106,hS104⟩
 dsimp only [jnO] at hk12
 unfold qbz at hk12
 simp only [qpi,qf,qe,f105,qn,qb,Nat.reduceAdd,Nat.zero_add,Nat.add_zero,qq,ql,B0,reduceIte,reduceEqDiff]
 refine qi (v:=lst qg v_0.Brokers) rfl ?_
 simp only [zq,qb,zw,zg,B0,reduceIte,reduceEqDiff]
 refine z5 rfl (qk qp (qk qp (qk qp ze))) (wc (fun b hb=>decide_eq_true hb) (List.length v_0.Brokers:Int) 1 6 _ rfl) ?_
 simp only [ji,qb,j5,qh,B0,reduceIte,reduceEqDiff]
 refine zt 5 (fun fr' h'=>Sep h' (geL h.length) ([])∧fr' 59 = .bool ((!(zl (List.length v_0.Brokers:Int) 1 6))||(decide ((5:Int) <
   (List.length v_0.Parts:Int))))∧fr' 1 = .ref [lst qg v_0.Brokers,lst qd v_0.Parts,.int .i64 v_0.Next] 0) (fun Q107 hN108=>?_) ?_
 ·simp only [List.take_succ_cons,List.take_zero]
  simp only [qc (g:=54),B0,reduceIte,reduceEqDiff]
  refine q9 (t:=(!(zl (List.length v_0.Brokers:Int) 1 6))) (fun hg109=>?_) (fun hg109=>?_)
  ·simp only [hg109,qc (g:=54),zu,qr,qb,zj,qa,qo,B0,reduceIte,reduceEqDiff]
   exact hN108 _ _ ⟨hS104,by rw [orT hg109]; simp only [B0,reduceIte,reduceEqDiff],f105⟩
  ·simp only [hg109,qc (g:=54),qt,f105,qn,qb,Nat.reduceAdd,Nat.zero_add,Nat.add_zero,qq,ql,B0,reduceIte,reduceEqDiff]
   refine qi (v:=lst qd v_0.Parts) rfl ?_
   simp only [hg109,qc (g:=54),qt,zq,qb,zw,qs,qii,qr,zi,qa,qo,B0,reduceIte,reduceEqDiff]
   exact hN108 _ _ ⟨hS104,by rw [orF hg109]; simp only [B0,reduceIte,reduceEqDiff],f105⟩
 rintro fr110 h113 ⟨hS114,f111,f112⟩
 simp only [List.drop_succ_cons,List.drop_zero]
 simp only [f111,qh,B0,reduceIte,reduceEqDiff]
 refine zt 5 (fun fr' h'=>Sep h' (geL h.length) ([])∧fr' 65 = .bool (((!(zl (List.length v_0.Brokers:Int) 1 6))||(decide ((5:Int) <
   (List.length v_0.Parts:Int))))||(!(zl v_0.Next 1 1000)))∧fr' 1 = .ref [lst qg v_0.Brokers,lst qd v_0.Parts,
   .int .i64 v_0.Next] 0) (fun Q115 hN116=>?_) ?_
 ·simp only [List.take_succ_cons,List.take_zero]
  simp only [qc (g:=60),B0,reduceIte,reduceEqDiff]
  refine q9 (t:=((!(zl (List.length v_0.Brokers:Int) 1 6))||(decide ((5:Int)<(List.length v_0.Parts:Int))))) (fun hg117=>?_) (fun hg117=>?_)
  ·simp only [hg117,qc (g:=60),zu,qr,qb,zj,qa,qo,B0,reduceIte,reduceEqDiff]
   exact hN116 _ _ ⟨hS114,by rw [orT hg117]; simp only [B0,reduceIte,reduceEqDiff],f112⟩
  ·simp only [hg117,qc (g:=60),qt,f112,qn,qb,Nat.reduceAdd,Nat.zero_add,Nat.add_zero,qq,ql,B0,reduceIte,reduceEqDiff]
   refine qi (v := .int .i64 v_0.Next) rfl ?_
   simp only [hg117,qc (g:=60),qt,zg,B0,reduceIte,reduceEqDiff]
   refine z5 rfl (qk qp (qk qp (qk qp ze))) (wc (fun b hb=>decide_eq_true hb) v_0.Next 1 1000 _ rfl) ?_
   simp only [hg117,qc (g:=60),qt,ji,qb,j5,qr,zi,qa,qo,B0,reduceIte,reduceEqDiff]
   exact hN116 _ _ ⟨hS114,by rw [orF hg117]; simp only [B0,reduceIte,reduceEqDiff],f112⟩
 rintro fr118 h121 ⟨hS122,f119,f120⟩
 simp only [List.drop_succ_cons,List.drop_zero]
 simp only [qa,f119,qy,B0,reduceIte,reduceEqDiff]
 refine qu (t:=(((!(zl (List.length v_0.Brokers:Int) 1 6))||(decide ((5:Int)<(List.length v_0.Parts:Int))))||(!(zl v_0.Next 1 1000))))
   (fun hc123=>?_) (fun hc123=>?_)
 ·rw [iteT hc123] at hk12
  simp only [qf,qe,qh,qa,qx,B0,reduceIte,reduceEqDiff]
  have he:=qj hk12
  subst he
  simp only [qw,B0,reduceIte,reduceEqDiff]
  exact rfl
 rw [iteF hc123] at hk12
 simp only [za,q32,qf,qe,f120,qn,qb,Nat.reduceAdd,Nat.zero_add,Nat.add_zero,qq,ql,B0,reduceIte,reduceEqDiff]
 refine qi (v:=lst qd v_0.Parts) rfl ?_
 simp only [zq,qb,zw,qh,qa,B0,reduceIte,reduceEqDiff]
 obtain ⟨oc126,hX128,hk129⟩:=jl hk12
 simp only [q24]
 refine yf (σ:=Unit) v_0.Parts (fun i124 x125 _=>u0 v_0 i124 x125 ) (fun s fr' h'=>fr' 1 = .ref [lst qg v_0.Brokers,
   lst qd v_0.Parts,.int .i64 v_0.Next] 0∧fr' 67=lst qd v_0.Parts∧Sep h' (geL h.length) ([])) hX128 ⟨f120,rfl,hS122⟩ (by simp only [B0,
   reduceIte,reduceEqDiff]) (by simp only [B0,reduceIte,
   reduceEqDiff]) (fun _ _ _ h=>h) rfl rfl (fun _ _ _ _ h=>h) (fun _ _ _ _ h=>h) (fun _ _ _ _ h=>h) (by decide) ?_ ?_
 ·rintro i124 x125 _ fr138 h139 hx143 ⟨f141,f142,hS140⟩ f144 f145 oc127 hF130 hr131 Q132 hN133 hB137 hK134 hR135 hE136
  unfold u0 at hF130
  simp only [q14,qf,qe,f142,f144,z1,B0,reduceIte,reduceEqDiff]
  refine qi (v := .ref (qd x125) 0) (ye hx143 rfl) ?_
  simp only [ql,B0,reduceIte,reduceEqDiff]
  refine qi (v := .agg [lst cI x125.Homes,lst cI x125.InStep,.int .i64 x125.Leader,.int .i64 x125.Epoch,.int .i64 x125.Stamp]) rfl ?_
  simp only [j6,B0,reduceIte,reduceEqDiff]
  refine jg hS140 (fun b146 h147 hS148=>?_)
  simp only [zm,B0,reduceIte,reduceEqDiff]
  refine zk (us:=[lst cI x125.Homes,lst cI x125.InStep,.int .i64 x125.Leader,.int .i64 x125.Epoch,.int .i64 x125.Stamp]) rfl (cs':=[lst cI x125.Homes,
    lst cI x125.InStep,.int .i64 x125.Leader,.int .i64 x125.Epoch,.int .i64 x125.Stamp]) hS148 hW rfl rfl (nle rfl) rfl (fun h150 hS151=>?_)
  simp only [qa,B0,reduceIte,reduceEqDiff]
  refine zn hS151 hW (by simp only [B0,reduceIte,reduceEqDiff]) (fun h152 hS153=>?_)
  simp only [zo,qzi,qf,qe,f141,ql,B0,reduceIte,reduceEqDiff]
  refine qi (v := .agg [lst qg v_0.Brokers,lst qd v_0.Parts,.int .i64 v_0.Next]) rfl ?_
  simp only [ql,B0,reduceIte,reduceEqDiff]
  refine qi (v := .agg [lst cI x125.Homes,lst cI x125.InStep,.int .i64 x125.Leader,.int .i64 x125.Epoch,.int .i64 x125.Stamp]) rfl ?_
  obtain ⟨v154,hx155,hF156⟩:=qm hF130
  simp only [zg,B0,reduceIte,reduceEqDiff]
  refine z5 rfl (qk (zv (qk zh (qk zh (qk qp ze)))) (qk (zv (qk zh (qk zh (qk qp (qk qp
    (qk qp ze)))))) ze)) (qkr (fun b hb=>decide_eq_true hb) v_0 x125 v154 hx155) ?_
  simp only [ji,qb,j5,qa,qy,B0,reduceIte,reduceEqDiff]
  refine qu (t:=(!v154)) (fun hc157=>?_) (fun hc157=>?_)
  ·rw [iteT hc157] at hF156
   simp only [qf,qe,qh,qa,qx,B0,reduceIte,reduceEqDiff]
   have e158:=qj hF156
   subst e158
   have ho159:=hr131 _ rfl
   have hk160:=hk129
   rw [ho159] at hk160
   dsimp only [jnO] at hk160
   apply hR135
   have he:=qj hk160
   subst he
   simp only [qw,B0,reduceIte,reduceEqDiff]
   exact rfl
  rw [iteF hc157] at hF156
  simp only [za,qo,B0,reduceIte,reduceEqDiff]
  have e161:=qj hF156
  exact hN133 _ _ _ e161.symm ⟨f141,f142,hS153⟩ (f144) (f145)
 rintro _ fr163 h164 rfl ⟨f166,f167,hS165⟩
 dsimp only [jnO] at hk129
 unfold qd4 at hk129
 simp only [qf,qe,qh,qa,qx,B0,reduceIte,reduceEqDiff]
 have he:=qj hk129
 subst he
 simp only [qw,B0,reduceIte,reduceEqDiff]
 exact rfl
end Go.Proofs.Ytjloihcijdcpeaa.X
namespace Go.Proofs.Ytjloihcijdcpeaa.X
open Go
open Nat (reduceEqDiff)
theorem qi2 {W:Nat→Bool}{h:Heap} (hW:∀ b,
  (geL h.length) b→W b=true) (v_0:Control) (v_1:Command) (r:Bool) (hF:qad v_0 v_1=some r) : Ret E W 54 [.agg [lst qg v_0.Brokers,
  lst qd v_0.Parts,.int .i64 v_0.Next],.agg [.int .i64 v_1.Kind,.int .i64 v_1.Broker,.int .i64 v_1.Epoch,.int .i64 v_1.Part,.int .i64 v_1.Stamp,
  lst cI v_1.InStep]] h (fun v h'=>cut h.length h' E.sz false 9 v=some (.bool r)):=by
 refine Ret.of (fn:=x54) rfl (Run.of ?_)
 unfold qad at hF
 have zf0:zd [.agg [lst qg v_0.Brokers,lst qd v_0.Parts,.int .i64 v_0.Next],.agg [.int .i64 v_1.Kind,.int .i64 v_1.Broker,.int .i64 v_1.Epoch,
   .int .i64 v_1.Part,.int .i64 v_1.Stamp,lst cI v_1.InStep]] 0 = .agg [lst qg v_0.Brokers,lst qd v_0.Parts,.int .i64 v_0.Next]:=rfl
 have zf1:zd [.agg [lst qg v_0.Brokers,lst qd v_0.Parts,.int .i64 v_0.Next],.agg [.int .i64 v_1.Kind,.int .i64 v_1.Broker,.int .i64 v_1.Epoch,
   .int .i64 v_1.Part,.int .i64 v_1.Stamp,lst cI v_1.InStep]] 1 = .agg [.int .i64 v_1.Kind,.int .i64 v_1.Broker,.int .i64 v_1.Epoch,.int .i64 v_1.Part,
   .int .i64 v_1.Stamp,lst cI v_1.InStep]:=rfl
 generalize zd [.agg [lst qg v_0.Brokers,lst qd v_0.Parts,.int .i64 v_0.Next],.agg [.int .i64 v_1.Kind,.int .i64 v_1.Broker,.int .i64 v_1.Epoch,
   .int .i64 v_1.Part,.int .i64 v_1.Stamp,lst cI v_1.InStep]]=fr0 at zf0 zf1 ⊢
 have hS:Sep h (geL h.length) []:=Sep.nil h
 simp only [x54,qf,qe,ja,zf0,B0,reduceIte,reduceEqDiff]
 refine z0 (cs:=[lst qg v_0.Brokers,lst qd v_0.Parts,.int .i64 v_0.Next]) hS rfl rfl rfl (fun b1 h2 hS3=>?_)
 simp only [ja,zf1,B0,reduceIte,reduceEqDiff]
 refine z0 (cs:=[.int .i64 v_1.Kind,.int .i64 v_1.Broker,.int .i64 v_1.Epoch,.int .i64 v_1.Part,.int .i64 v_1.Stamp,
   lst cI v_1.InStep]) hS3 rfl rfl rfl (fun b5 h6 hS7=>?_)
 simp only [qh,qa,B0,reduceIte,reduceEqDiff]
 refine zn (Sep.m1 hS7) hW (by simp only [B0,reduceIte,reduceEqDiff]) (fun h9 hS10=>?_)
 refine zn hS10 hW (by simp only [B0,reduceIte,reduceEqDiff]) (fun h11 hS12=>?_)
 simp only [zo,qp8,qf,qe,qn,qb,Nat.reduceAdd,Nat.zero_add,Nat.add_zero,qq,ql,B0,reduceIte,reduceEqDiff]
 refine qi (v := .int .i64 v_1.Broker) rfl ?_
 simp only [qs,qb,qcr,qh,B0,reduceIte,reduceEqDiff]
 refine zt 7 (fun fr' h'=>Sep h' (geL h.length) ([])∧fr' 17 = .bool ((decide ((0:Int)≤v_1.Broker))&&(decide (v_1.Broker <
   (List.length v_0.Brokers:Int))))∧fr' 2 = .ref [lst qg v_0.Brokers,lst qd v_0.Parts,.int .i64 v_0.Next] 0∧fr' 3 = .ref [.int .i64 v_1.Kind,
   .int .i64 v_1.Broker,.int .i64 v_1.Epoch,.int .i64 v_1.Part,.int .i64 v_1.Stamp,lst cI v_1.InStep] 0) (fun Q13 hN14=>?_) ?_
 ·simp only [List.take_succ_cons,List.take_zero]
  simp only [qc (g:=10),B0,reduceIte,reduceEqDiff]
  refine q9 (t:=(decide ((0:Int)≤v_1.Broker))) (fun hg15=>?_) (fun hg15=>?_)
  ·simp only [hg15,qc (g:=10),q8,qn,qb,Nat.reduceAdd,Nat.zero_add,Nat.add_zero,qq,ql,B0,reduceIte,reduceEqDiff]
   refine qi (v := .int .i64 v_1.Broker) rfl ?_
   simp only [hg15,qc (g:=10),q8,qn,qb,Nat.reduceAdd,Nat.zero_add,Nat.add_zero,qq,ql,B0,reduceIte,reduceEqDiff]
   refine qi (v:=lst qg v_0.Brokers) rfl ?_
   simp only [hg15,qc (g:=10),q8,zq,qb,zw,qs,k8,qr,zj,qa,qo,B0,reduceIte,reduceEqDiff]
   exact hN14 _ _ ⟨hS12,by rw [kw hg15]; simp only [B0,reduceIte,reduceEqDiff],rfl,rfl⟩
  ·simp only [hg15,qc (g:=10),zz,qr,qb,zi,qa,qo,B0,reduceIte,reduceEqDiff]
   exact hN14 _ _ ⟨hS12,by rw [kv hg15]; simp only [B0,reduceIte,reduceEqDiff],rfl,rfl⟩
 rintro fr16 h20 ⟨hS21,f17,f18,f19⟩
 simp only [List.drop_succ_cons,List.drop_zero]
 simp only [f17,qh,qa,qqv,qf,qe,f19,qn,qb,Nat.reduceAdd,Nat.zero_add,Nat.add_zero,qq,ql,B0,reduceIte,reduceEqDiff]
 refine qi (v:=lst cI v_1.InStep) rfl ?_
 simp only [zq,qb,zw,qs,jb,qh,qa,qo7,qf,qe,f19,qn,Nat.reduceAdd,Nat.zero_add,Nat.add_zero,qq,ql,
   B0,reduceIte,reduceEqDiff]
 refine qi (v := .int .i64 v_1.Kind) rfl ?_
 simp only [qa,qo6,ka,qsr,qf,qe,qs,qb,jb,qh,qs8,qy,B0,reduceIte,reduceEqDiff]
 refine qu (t:=(decide (v_1.Kind=1))) (fun hc22=>?_) (fun hc22=>?_)
 ·rw [iteT hc22] at hF
  simp only [q01,qf,qe,qh,B0,reduceIte,reduceEqDiff]
  refine zt 4 (fun fr' h'=>Sep h' (geL h.length) ([])∧fr' 31 = .bool (((decide ((0:Int)≤v_1.Broker))&&(decide (v_1.Broker<(List.length v_0.Brokers:Int)))) &&
    (decide (v_1.Epoch=0)))∧fr' 3 = .ref [.int .i64 v_1.Kind,.int .i64 v_1.Broker,.int .i64 v_1.Epoch,.int .i64 v_1.Part,.int .i64 v_1.Stamp,
    lst cI v_1.InStep] 0∧fr' 6 = .bool (decide ((List.length v_1.InStep:Int)=0))) (fun Q23 hN24=>?_) ?_
  ·simp only [List.take_succ_cons,List.take_zero]
   simp only [qc (g:=27),B0,reduceIte,reduceEqDiff]
   refine q9 (t:=((decide ((0:Int)≤v_1.Broker))&&(decide (v_1.Broker<(List.length v_0.Brokers:Int))))) (fun hg25=>?_) (fun hg25=>?_)
   ·simp only [hg25,qc (g:=27),q8,f19,qn,qb,Nat.reduceAdd,Nat.zero_add,Nat.add_zero,qq,ql,B0,reduceIte,reduceEqDiff]
    refine qi (v := .int .i64 v_1.Epoch) rfl ?_
    simp only [hg25,qc (g:=27),q8,qs,qb,jb,qr,zj,qa,qo,B0,reduceIte,reduceEqDiff]
    exact hN24 _ _ ⟨hS21,by rw [kw hg25]; simp only [B0,reduceIte,reduceEqDiff],f19,rfl⟩
   ·simp only [hg25,qc (g:=27),zz,qr,qb,zi,qa,qo,B0,reduceIte,reduceEqDiff]
    exact hN24 _ _ ⟨hS21,by rw [kv hg25]; simp only [B0,reduceIte,reduceEqDiff],f19,rfl⟩
  rintro fr26 h30 ⟨hS31,f27,f28,f29⟩
  simp only [List.drop_succ_cons,List.drop_zero]
  simp only [f27,qh,B0,reduceIte,reduceEqDiff]
  refine zt 4 (fun fr' h'=>Sep h' (geL h.length) ([])∧fr' 36 = .bool ((((decide ((0:Int)≤v_1.Broker))&&(decide (v_1.Broker<(List.length v_0.Brokers:Int)))) &&
    (decide (v_1.Epoch=0)))&&(decide (v_1.Part=0)))∧fr' 3 = .ref [.int .i64 v_1.Kind,.int .i64 v_1.Broker,.int .i64 v_1.Epoch,.int .i64 v_1.Part,
    .int .i64 v_1.Stamp,lst cI v_1.InStep] 0∧fr' 6 = .bool (decide ((List.length v_1.InStep:Int)=0))) (fun Q32 hN33=>?_) ?_
  ·simp only [List.take_succ_cons,List.take_zero]
   simp only [qc (g:=32),B0,reduceIte,reduceEqDiff]
   refine q9 (t:=(((decide ((0:Int)≤v_1.Broker))&&(decide (v_1.Broker<(List.length v_0.Brokers:Int))))&&(decide (v_1.Epoch=0)))) (fun hg34=>?_)
     (fun hg34=>?_)
   ·simp only [hg34,qc (g:=32),q8,f28,qn,qb,Nat.reduceAdd,Nat.zero_add,Nat.add_zero,qq,ql,B0,reduceIte,reduceEqDiff]
    refine qi (v := .int .i64 v_1.Part) rfl ?_
    simp only [hg34,qc (g:=32),q8,qs,qb,jb,qr,zj,qa,qo,B0,reduceIte,reduceEqDiff]
    exact hN33 _ _ ⟨hS31,by rw [kw hg34]; simp only [B0,reduceIte,reduceEqDiff],f28,f29⟩
   ·simp only [hg34,qc (g:=32),zz,qr,qb,zi,qa,qo,B0,reduceIte,reduceEqDiff]
    exact hN33 _ _ ⟨hS31,by rw [kv hg34]; simp only [B0,reduceIte,reduceEqDiff],f28,f29⟩
  rintro fr35 h39 ⟨hS40,f36,f37,f38⟩
  simp only [List.drop_succ_cons,List.drop_zero]
  simp only [f36,qh,B0,reduceIte,reduceEqDiff]
  refine zt 4 (fun fr' h'=>Sep h' (geL h.length) ([])∧fr' 41 = .bool (((((decide ((0:Int)≤v_1.Broker))&&(decide (v_1.Broker<(List.length v_0.Brokers:Int)))) &&
    (decide (v_1.Epoch=0)))&&(decide (v_1.Part=0)))&&(decide (v_1.Stamp=0)))∧fr' 6 = .bool (decide ((List.length v_1.InStep:Int)=0))) (fun Q41 hN42=>?_) ?_
  ·simp only [List.take_succ_cons,List.take_zero]
   simp only [qc (g:=37),B0,reduceIte,reduceEqDiff]
   refine q9 (t:=((((decide ((0:Int)≤v_1.Broker))&&(decide (v_1.Broker<(List.length v_0.Brokers:Int))))&&(decide (v_1.Epoch=0)))&&(decide
     (v_1.Part=0)))) (fun hg43=>?_) (fun hg43=>?_)
   ·simp only [hg43,qc (g:=37),q8,f37,qn,qb,Nat.reduceAdd,Nat.zero_add,Nat.add_zero,qq,ql,B0,reduceIte,reduceEqDiff]
    refine qi (v := .int .i64 v_1.Stamp) rfl ?_
    simp only [hg43,qc (g:=37),q8,qs,qb,jb,qr,zj,qa,qo,B0,reduceIte,reduceEqDiff]
    exact hN42 _ _ ⟨hS40,by rw [kw hg43]; simp only [B0,reduceIte,reduceEqDiff],f38⟩
   ·simp only [hg43,qc (g:=37),zz,qr,qb,zi,qa,qo,B0,reduceIte,reduceEqDiff]
    exact hN42 _ _ ⟨hS40,by rw [kv hg43]; simp only [B0,reduceIte,reduceEqDiff],f38⟩
  rintro fr44 h47 ⟨hS48,f45,f46⟩
  simp only [List.drop_succ_cons,List.drop_zero]
  simp only [f45,qh,B0,reduceIte,reduceEqDiff]
  refine zt 2 (fun fr' h'=>Sep h' (geL h.length) ([])∧fr' 44 = .bool ((((((decide ((0:Int)≤v_1.Broker))&&(decide (v_1.Broker <
    (List.length v_0.Brokers:Int))))&&(decide (v_1.Epoch=0)))&&(decide (v_1.Part=0)))&&(decide (v_1.Stamp=0)))&&(decide
    ((List.length v_1.InStep:Int)=0)))) (fun Q49 hN50=>?_) ?_
  ·simp only [List.take_succ_cons,List.take_zero]
   simp only [qc (g:=42),B0,reduceIte,reduceEqDiff]
   refine q9 (t:=(((((decide ((0:Int)≤v_1.Broker))&&(decide (v_1.Broker<(List.length v_0.Brokers:Int))))&&(decide (v_1.Epoch=0)))&&(decide
     (v_1.Part=0)))&&(decide (v_1.Stamp=0)))) (fun hg51=>?_) (fun hg51=>?_)
   ·simp only [hg51,qc (g:=42),q8,f46,qh,qr,qb,zj,qa,qo,B0,reduceIte,reduceEqDiff]
    exact hN50 _ _ ⟨hS48,by rw [kw hg51]; simp only [B0,reduceIte,reduceEqDiff]⟩
   ·simp only [hg51,qc (g:=42),zz,qr,qb,zi,qa,qo,B0,reduceIte,reduceEqDiff]
    exact hN50 _ _ ⟨hS48,by rw [kv hg51]; simp only [B0,reduceIte,reduceEqDiff]⟩
  rintro fr52 h54 ⟨hS55,f53⟩
  simp only [List.drop_succ_cons,List.drop_zero]
  simp only [f53,qh,qa,qx,B0,reduceIte,reduceEqDiff]
  have he:=qj hF
  subst he
  simp only [qw,B0,reduceIte,reduceEqDiff]
  exact rfl
 rw [iteF hc22] at hF
 simp only [qqk,qf,qe,qs,qb,jb,qh,qa,qs2,qy,B0,reduceIte,reduceEqDiff]
 refine qu (t:=(decide (v_1.Kind=2))) (fun hc56=>?_) (fun hc56=>?_)
 ·rw [iteT hc56] at hF
  simp only [qwn,qf,qe,qh,B0,reduceIte,reduceEqDiff]
  refine zt 4 (fun fr' h'=>Sep h' (geL h.length) ([])∧fr' 52 = .bool (((decide ((0:Int)≤v_1.Broker))&&(decide (v_1.Broker<(List.length v_0.Brokers:Int)))) &&
    (zl v_1.Epoch 0 1000))∧fr' 3 = .ref [.int .i64 v_1.Kind,.int .i64 v_1.Broker,.int .i64 v_1.Epoch,.int .i64 v_1.Part,.int .i64 v_1.Stamp,
    lst cI v_1.InStep] 0∧fr' 6 = .bool (decide ((List.length v_1.InStep:Int)=0))) (fun Q57 hN58=>?_) ?_
  ·simp only [List.take_succ_cons,List.take_zero]
   simp only [qc (g:=48),B0,reduceIte,reduceEqDiff]
   refine q9 (t:=((decide ((0:Int)≤v_1.Broker))&&(decide (v_1.Broker<(List.length v_0.Brokers:Int))))) (fun hg59=>?_) (fun hg59=>?_)
   ·simp only [hg59,qc (g:=48),q8,f19,qn,qb,Nat.reduceAdd,Nat.zero_add,Nat.add_zero,qq,ql,B0,reduceIte,reduceEqDiff]
    refine qi (v := .int .i64 v_1.Epoch) rfl ?_
    simp only [hg59,qc (g:=48),q8,zg,B0,reduceIte,reduceEqDiff]
    refine z5 rfl (qk qp (qk qp (qk qp ze))) (wc (fun b hb=>decide_eq_true hb) v_1.Epoch 0 1000 _ rfl) ?_
    simp only [hg59,qr,qb,zj,qa,qo,B0,reduceIte,reduceEqDiff]
    exact hN58 _ _ ⟨hS21,by rw [kw hg59]; simp only [B0,reduceIte,reduceEqDiff],f19,rfl⟩
   ·simp only [hg59,qc (g:=48),zz,qr,qb,zi,qa,qo,B0,reduceIte,reduceEqDiff]
    exact hN58 _ _ ⟨hS21,by rw [kv hg59]; simp only [B0,reduceIte,reduceEqDiff],f19,rfl⟩
  rintro fr60 h64 ⟨hS65,f61,f62,f63⟩
  simp only [List.drop_succ_cons,List.drop_zero]
  simp only [f61,qh,B0,reduceIte,reduceEqDiff]
  refine zt 4 (fun fr' h'=>Sep h' (geL h.length) ([])∧fr' 57 = .bool ((((decide ((0:Int)≤v_1.Broker))&&(decide (v_1.Broker<(List.length v_0.Brokers:Int)))) &&
    (zl v_1.Epoch 0 1000))&&(decide (v_1.Part=0)))∧fr' 3 = .ref [.int .i64 v_1.Kind,.int .i64 v_1.Broker,.int .i64 v_1.Epoch,.int .i64 v_1.Part,
    .int .i64 v_1.Stamp,lst cI v_1.InStep] 0∧fr' 6 = .bool (decide ((List.length v_1.InStep:Int)=0))) (fun Q66 hN67=>?_) ?_
  ·simp only [List.take_succ_cons,List.take_zero]
   simp only [qc (g:=53),B0,reduceIte,reduceEqDiff]
   refine q9 (t:=(((decide ((0:Int)≤v_1.Broker))&&(decide (v_1.Broker<(List.length v_0.Brokers:Int))))&&(zl v_1.Epoch 0 1000))) (fun hg68=>?_)
     (fun hg68=>?_)
   ·simp only [hg68,qc (g:=53),q8,f62,qn,qb,Nat.reduceAdd,Nat.zero_add,Nat.add_zero,qq,ql,B0,reduceIte,reduceEqDiff]
    refine qi (v := .int .i64 v_1.Part) rfl ?_
    simp only [hg68,qc (g:=53),q8,qs,qb,jb,qr,zj,qa,qo,B0,reduceIte,reduceEqDiff]
    exact hN67 _ _ ⟨hS65,by rw [kw hg68]; simp only [B0,reduceIte,reduceEqDiff],f62,f63⟩
   ·simp only [hg68,qc (g:=53),zz,qr,qb,zi,qa,qo,B0,reduceIte,reduceEqDiff]
    exact hN67 _ _ ⟨hS65,by rw [kv hg68]; simp only [B0,reduceIte,reduceEqDiff],f62,f63⟩
  rintro fr69 h73 ⟨hS74,f70,f71,f72⟩
  simp only [List.drop_succ_cons,List.drop_zero]
  simp only [f70,qh,B0,reduceIte,reduceEqDiff]
  refine zt 4 (fun fr' h'=>Sep h' (geL h.length) ([])∧fr' 62 = .bool (((((decide ((0:Int)≤v_1.Broker))&&(decide (v_1.Broker<(List.length v_0.Brokers:Int)))) &&
    (zl v_1.Epoch 0 1000))&&(decide (v_1.Part=0)))&&(decide (v_1.Stamp=0)))∧fr' 6 = .bool (decide ((List.length v_1.InStep:Int)=0)))
    (fun Q75 hN76=>?_) ?_
  ·simp only [List.take_succ_cons,List.take_zero]
   simp only [qc (g:=58),B0,reduceIte,reduceEqDiff]
   refine q9 (t:=((((decide ((0:Int)≤v_1.Broker))&&(decide (v_1.Broker<(List.length v_0.Brokers:Int))))&&(zl v_1.Epoch 0 1000))&&(decide
     (v_1.Part=0)))) (fun hg77=>?_) (fun hg77=>?_)
   ·simp only [hg77,qc (g:=58),q8,f71,qn,qb,Nat.reduceAdd,Nat.zero_add,Nat.add_zero,qq,ql,B0,reduceIte,reduceEqDiff]
    refine qi (v := .int .i64 v_1.Stamp) rfl ?_
    simp only [hg77,qc (g:=58),q8,qs,qb,jb,qr,zj,qa,qo,B0,reduceIte,reduceEqDiff]
    exact hN76 _ _ ⟨hS74,by rw [kw hg77]; simp only [B0,reduceIte,reduceEqDiff],f72⟩
   ·simp only [hg77,qc (g:=58),zz,qr,qb,zi,qa,qo,B0,reduceIte,reduceEqDiff]
    exact hN76 _ _ ⟨hS74,by rw [kv hg77]; simp only [B0,reduceIte,reduceEqDiff],f72⟩
  rintro fr78 h81 ⟨hS82,f79,f80⟩
  simp only [List.drop_succ_cons,List.drop_zero]
  simp only [f79,qh,B0,reduceIte,reduceEqDiff]
  refine zt 2 (fun fr' h'=>Sep h' (geL h.length) ([])∧fr' 65 = .bool ((((((decide ((0:Int)≤v_1.Broker))&&(decide (v_1.Broker <
    (List.length v_0.Brokers:Int))))&&(zl v_1.Epoch 0 1000))&&(decide (v_1.Part=0)))&&(decide (v_1.Stamp=0)))&&(decide
    ((List.length v_1.InStep:Int)=0)))) (fun Q83 hN84=>?_) ?_
  ·simp only [List.take_succ_cons,List.take_zero]
   simp only [qc (g:=63),B0,reduceIte,reduceEqDiff]
   refine q9 (t:=(((((decide ((0:Int)≤v_1.Broker))&&(decide (v_1.Broker<(List.length v_0.Brokers:Int))))&&(zl v_1.Epoch 0 1000))&&(decide
     (v_1.Part=0)))&&(decide (v_1.Stamp=0)))) (fun hg85=>?_) (fun hg85=>?_)
   ·simp only [hg85,qc (g:=63),q8,f80,qh,qr,qb,zj,qa,qo,B0,reduceIte,reduceEqDiff]
    exact hN84 _ _ ⟨hS82,by rw [kw hg85]; simp only [B0,reduceIte,reduceEqDiff]⟩
   ·simp only [hg85,qc (g:=63),zz,qr,qb,zi,qa,qo,B0,reduceIte,reduceEqDiff]
    exact hN84 _ _ ⟨hS82,by rw [kv hg85]; simp only [B0,reduceIte,reduceEqDiff]⟩
  rintro fr86 h88 ⟨hS89,f87⟩
  simp only [List.drop_succ_cons,List.drop_zero]
  simp only [f87,qh,qa,qx,B0,reduceIte,reduceEqDiff]
  have he:=qj hF
  subst he
  simp only [qw,B0,reduceIte,reduceEqDiff]
  exact rfl
 rw [iteF hc56] at hF
 simp only [qsf,qf,qe,qs,qb,jb,qh,qa,qtr,qy,B0,reduceIte,reduceEqDiff]
 refine qu (t:=(decide (v_1.Kind=3))) (fun hc90=>?_) (fun hc90=>?_)
 ·rw [iteT hc90] at hF
  simp only [q0h,qf,qe,f19,qn,qb,Nat.reduceAdd,Nat.zero_add,Nat.add_zero,qq,ql,B0,reduceIte,reduceEqDiff]
  refine qi (v := .int .i64 v_1.Broker) rfl ?_
  simp only [qs,qb,jb,qh,B0,reduceIte,reduceEqDiff]
  refine zt 4 (fun fr' h'=>Sep h' (geL h.length) ([])∧fr' 75 = .bool ((decide (v_1.Broker=0))&&(decide (v_1.Epoch=0)))∧fr' 3 = .ref [.int .i64 v_1.Kind,
    .int .i64 v_1.Broker,.int .i64 v_1.Epoch,.int .i64 v_1.Part,.int .i64 v_1.Stamp,
    lst cI v_1.InStep] 0∧fr' 6 = .bool (decide ((List.length v_1.InStep:Int)=0))) (fun Q91 hN92=>?_) ?_
  ·simp only [List.take_succ_cons,List.take_zero]
   simp only [qc (g:=71),B0,reduceIte,reduceEqDiff]
   refine q9 (t:=(decide (v_1.Broker=0))) (fun hg93=>?_) (fun hg93=>?_)
   ·simp only [hg93,qc (g:=71),q8,f19,qn,qb,Nat.reduceAdd,Nat.zero_add,Nat.add_zero,qq,ql,B0,reduceIte,reduceEqDiff]
    refine qi (v := .int .i64 v_1.Epoch) rfl ?_
    simp only [hg93,qc (g:=71),q8,qs,qb,jb,qr,zj,qa,qo,B0,reduceIte,reduceEqDiff]
    exact hN92 _ _ ⟨hS21,by rw [kw hg93]; simp only [B0,reduceIte,reduceEqDiff],f19,rfl⟩
   ·simp only [hg93,qc (g:=71),zz,qr,qb,zi,qa,qo,B0,reduceIte,reduceEqDiff]
    exact hN92 _ _ ⟨hS21,by rw [kv hg93]; simp only [B0,reduceIte,reduceEqDiff],f19,rfl⟩
  rintro fr94 h98 ⟨hS99,f95,f96,f97⟩
  simp only [List.drop_succ_cons,List.drop_zero]
  simp only [f95,qh,B0,reduceIte,reduceEqDiff]
  refine zt 4 (fun fr' h'=>Sep h' (geL h.length) ([])∧fr' 80 = .bool (((decide (v_1.Broker=0))&&(decide (v_1.Epoch=0)))&&(decide
    (v_1.Part=0)))∧fr' 3 = .ref [.int .i64 v_1.Kind,.int .i64 v_1.Broker,.int .i64 v_1.Epoch,.int .i64 v_1.Part,.int .i64 v_1.Stamp,
    lst cI v_1.InStep] 0∧fr' 6 = .bool (decide ((List.length v_1.InStep:Int)=0))) (fun Q100 hN101=>?_) ?_
  ·simp only [List.take_succ_cons,List.take_zero]
   simp only [qc (g:=76),B0,reduceIte,reduceEqDiff]
   refine q9 (t:=((decide (v_1.Broker=0))&&(decide (v_1.Epoch=0)))) (fun hg102=>?_) (fun hg102=>?_)
   ·simp only [hg102,qc (g:=76),q8,f96,qn,qb,Nat.reduceAdd,Nat.zero_add,Nat.add_zero,qq,ql,B0,reduceIte,reduceEqDiff]
    refine qi (v := .int .i64 v_1.Part) rfl ?_
    simp only [hg102,qc (g:=76),q8,qs,qb,jb,qr,zj,qa,qo,B0,reduceIte,reduceEqDiff]
    exact hN101 _ _ ⟨hS99,by rw [kw hg102]; simp only [B0,reduceIte,reduceEqDiff],f96,f97⟩
   ·simp only [hg102,qc (g:=76),zz,qr,qb,zi,qa,qo,B0,reduceIte,reduceEqDiff]
    exact hN101 _ _ ⟨hS99,by rw [kv hg102]; simp only [B0,reduceIte,reduceEqDiff],f96,f97⟩
  rintro fr103 h107 ⟨hS108,f104,f105,f106⟩
  simp only [List.drop_succ_cons,List.drop_zero]
  simp only [f104,qh,B0,reduceIte,reduceEqDiff]
  refine zt 4 (fun fr' h'=>Sep h' (geL h.length) ([])∧fr' 85 = .bool ((((decide (v_1.Broker=0))&&(decide (v_1.Epoch=0)))&&(decide (v_1.Part=0)))&&(decide
    (v_1.Stamp=0)))∧fr' 6 = .bool (decide ((List.length v_1.InStep:Int)=0))) (fun Q109 hN110=>?_) ?_
  ·simp only [List.take_succ_cons,List.take_zero]
   simp only [qc (g:=81),B0,reduceIte,reduceEqDiff]
   refine q9 (t:=(((decide (v_1.Broker=0))&&(decide (v_1.Epoch=0)))&&(decide (v_1.Part=0)))) (fun hg111=>?_) (fun hg111=>?_)
   ·simp only [hg111,qc (g:=81),q8,f105,qn,qb,Nat.reduceAdd,Nat.zero_add,Nat.add_zero,qq,ql,B0,reduceIte,reduceEqDiff]
    refine qi (v := .int .i64 v_1.Stamp) rfl ?_
    simp only [hg111,qc (g:=81),q8,qs,qb,jb,qr,zj,qa,qo,B0,reduceIte,reduceEqDiff]
    exact hN110 _ _ ⟨hS108,by rw [kw hg111]; simp only [B0,reduceIte,reduceEqDiff],f106⟩
   ·simp only [hg111,qc (g:=81),zz,qr,qb,zi,qa,qo,B0,reduceIte,reduceEqDiff]
    exact hN110 _ _ ⟨hS108,by rw [kv hg111]; simp only [B0,reduceIte,reduceEqDiff],f106⟩
  rintro fr112 h115 ⟨hS116,f113,f114⟩
  simp only [List.drop_succ_cons,List.drop_zero]
  simp only [f113,qh,B0,reduceIte,reduceEqDiff]
  refine zt 2 (fun fr' h'=>Sep h' (geL h.length) ([])∧fr' 88 = .bool (((((decide (v_1.Broker=0))&&(decide (v_1.Epoch=0)))&&(decide (v_1.Part=0)))&&(decide
    (v_1.Stamp=0)))&&(decide ((List.length v_1.InStep:Int)=0)))) (fun Q117 hN118=>?_) ?_
  ·simp only [List.take_succ_cons,List.take_zero]
   simp only [qc (g:=86),B0,reduceIte,reduceEqDiff]
   refine q9 (t:=((((decide (v_1.Broker=0))&&(decide (v_1.Epoch=0)))&&(decide (v_1.Part=0)))&&(decide (v_1.Stamp=0)))) (fun hg119=>?_)
     (fun hg119=>?_)
   ·simp only [hg119,qc (g:=86),q8,f114,qh,qr,qb,zj,qa,qo,B0,reduceIte,reduceEqDiff]
    exact hN118 _ _ ⟨hS116,by rw [kw hg119]; simp only [B0,reduceIte,reduceEqDiff]⟩
   ·simp only [hg119,qc (g:=86),zz,qr,qb,zi,qa,qo,B0,reduceIte,reduceEqDiff]
    exact hN118 _ _ ⟨hS116,by rw [kv hg119]; simp only [B0,reduceIte,reduceEqDiff]⟩
  rintro fr120 h122 ⟨hS123,f121⟩
  simp only [List.drop_succ_cons,List.drop_zero]
  simp only [f121,qh,qa,qx,B0,reduceIte,reduceEqDiff]
  have he:=qj hF
  subst he
  simp only [qw,B0,reduceIte,reduceEqDiff]
  exact rfl
 rw [iteF hc90] at hF
 simp only [qsk,qf,qe,qs,qb,jb,qh,qa,qra,qy,B0,reduceIte,reduceEqDiff]
 refine qu (t:=(decide (v_1.Kind=4))) (fun hc124=>?_) (fun hc124=>?_)
 ·rw [iteT hc124] at hF
  simp only [q15,qf,qe,f19,qn,qb,Nat.reduceAdd,Nat.zero_add,Nat.add_zero,qq,ql,B0,reduceIte,reduceEqDiff]
  refine qi (v := .int .i64 v_1.Broker) rfl ?_
  simp only [qs,qb,jb,qh,B0,reduceIte,reduceEqDiff]
  refine zt 4 (fun fr' h'=>Sep h' (geL h.length) ([])∧fr' 98 = .bool ((decide (v_1.Broker=0))&&(decide (v_1.Epoch=0)))∧fr' 2 = .ref [lst qg v_0.Brokers,
    lst qd v_0.Parts,.int .i64 v_0.Next] 0∧fr' 3 = .ref [.int .i64 v_1.Kind,.int .i64 v_1.Broker,.int .i64 v_1.Epoch,.int .i64 v_1.Part,
    .int .i64 v_1.Stamp,lst cI v_1.InStep] 0) (fun Q125 hN126=>?_) ?_
  ·simp only [List.take_succ_cons,List.take_zero]
   simp only [qc (g:=94),B0,reduceIte,reduceEqDiff]
   refine q9 (t:=(decide (v_1.Broker=0))) (fun hg127=>?_) (fun hg127=>?_)
   ·simp only [hg127,qc (g:=94),q8,f19,qn,qb,Nat.reduceAdd,Nat.zero_add,Nat.add_zero,qq,ql,B0,reduceIte,reduceEqDiff]
    refine qi (v := .int .i64 v_1.Epoch) rfl ?_
    simp only [hg127,qc (g:=94),q8,qs,qb,jb,qr,zj,qa,qo,B0,reduceIte,reduceEqDiff]
    exact hN126 _ _ ⟨hS21,by rw [kw hg127]; simp only [B0,reduceIte,reduceEqDiff],f18,f19⟩
   ·simp only [hg127,qc (g:=94),zz,qr,qb,zi,qa,qo,B0,reduceIte,reduceEqDiff]
    exact hN126 _ _ ⟨hS21,by rw [kv hg127]; simp only [B0,reduceIte,reduceEqDiff],f18,f19⟩
  rintro fr128 h132 ⟨hS133,f129,f130,f131⟩
  simp only [List.drop_succ_cons,List.drop_zero]
  simp only [f129,qh,B0,reduceIte,reduceEqDiff]
  refine zt 4 (fun fr' h'=>Sep h' (geL h.length) ([])∧fr' 103 = .bool (((decide (v_1.Broker=0))&&(decide (v_1.Epoch=0)))&&(decide
    (v_1.Part=0)))∧fr' 2 = .ref [lst qg v_0.Brokers,lst qd v_0.Parts,.int .i64 v_0.Next] 0∧fr' 3 = .ref [.int .i64 v_1.Kind,
    .int .i64 v_1.Broker,.int .i64 v_1.Epoch,.int .i64 v_1.Part,.int .i64 v_1.Stamp,lst cI v_1.InStep] 0) (fun Q134 hN135=>?_) ?_
  ·simp only [List.take_succ_cons,List.take_zero]
   simp only [qc (g:=99),B0,reduceIte,reduceEqDiff]
   refine q9 (t:=((decide (v_1.Broker=0))&&(decide (v_1.Epoch=0)))) (fun hg136=>?_) (fun hg136=>?_)
   ·simp only [hg136,qc (g:=99),q8,f131,qn,qb,Nat.reduceAdd,Nat.zero_add,Nat.add_zero,qq,ql,B0,reduceIte,reduceEqDiff]
    refine qi (v := .int .i64 v_1.Part) rfl ?_
    simp only [hg136,qc (g:=99),q8,qs,qb,jb,qr,zj,qa,qo,B0,reduceIte,reduceEqDiff]
    exact hN135 _ _ ⟨hS133,by rw [kw hg136]; simp only [B0,reduceIte,reduceEqDiff],f130,f131⟩
   ·simp only [hg136,qc (g:=99),zz,qr,qb,zi,qa,qo,B0,reduceIte,reduceEqDiff]
    exact hN135 _ _ ⟨hS133,by rw [kv hg136]; simp only [B0,reduceIte,reduceEqDiff],f130,f131⟩
  rintro fr137 h141 ⟨hS142,f138,f139,f140⟩
  simp only [List.drop_succ_cons,List.drop_zero]
  simp only [f138,qh,B0,reduceIte,reduceEqDiff]
  refine zt 4 (fun fr' h'=>Sep h' (geL h.length) ([])∧fr' 108 = .bool ((((decide (v_1.Broker=0))&&(decide (v_1.Epoch=0)))&&(decide (v_1.Part=0)))&&(decide
    (v_1.Stamp=0)))∧fr' 2 = .ref [lst qg v_0.Brokers,lst qd v_0.Parts,.int .i64 v_0.Next] 0∧fr' 3 = .ref [.int .i64 v_1.Kind,
    .int .i64 v_1.Broker,.int .i64 v_1.Epoch,.int .i64 v_1.Part,.int .i64 v_1.Stamp,lst cI v_1.InStep] 0) (fun Q143 hN144=>?_) ?_
  ·simp only [List.take_succ_cons,List.take_zero]
   simp only [qc (g:=104),B0,reduceIte,reduceEqDiff]
   refine q9 (t:=(((decide (v_1.Broker=0))&&(decide (v_1.Epoch=0)))&&(decide (v_1.Part=0)))) (fun hg145=>?_) (fun hg145=>?_)
   ·simp only [hg145,qc (g:=104),q8,f140,qn,qb,Nat.reduceAdd,Nat.zero_add,Nat.add_zero,qq,ql,B0,reduceIte,reduceEqDiff]
    refine qi (v := .int .i64 v_1.Stamp) rfl ?_
    simp only [hg145,qc (g:=104),q8,qs,qb,jb,qr,zj,qa,qo,B0,reduceIte,reduceEqDiff]
    exact hN144 _ _ ⟨hS142,by rw [kw hg145]; simp only [B0,reduceIte,reduceEqDiff],f139,f140⟩
   ·simp only [hg145,qc (g:=104),zz,qr,qb,zi,qa,qo,B0,reduceIte,reduceEqDiff]
    exact hN144 _ _ ⟨hS142,by rw [kv hg145]; simp only [B0,reduceIte,reduceEqDiff],f139,f140⟩
  rintro fr146 h150 ⟨hS151,f147,f148,f149⟩
  simp only [List.drop_succ_cons,List.drop_zero]
  simp only [f147,qh,B0,reduceIte,reduceEqDiff]
  obtain ⟨v155,hx156,hF157⟩:=qm hF
  refine zt 7 (fun fr' h'=>Sep h' (geL h.length) ([])∧fr' 116 = .bool v155) (fun Q152 hN153=>?_) ?_
  ·simp only [List.take_succ_cons,List.take_zero]
   simp only [qc (g:=109),B0,reduceIte,reduceEqDiff]
   refine q9 (t:=((((decide (v_1.Broker=0))&&(decide (v_1.Epoch=0)))&&(decide (v_1.Part=0)))&&(decide (v_1.Stamp=0)))) (fun hg154=>?_)
     (fun hg154=>?_)
   ·rw [iteT hg154] at hx156
    simp only [hg154,qc (g:=109),q8,f149,qn,qb,Nat.reduceAdd,Nat.zero_add,Nat.add_zero,qq,ql,B0,reduceIte,reduceEqDiff]
    refine qi (v:=lst cI v_1.InStep) rfl ?_
    simp only [hg154,qc (g:=109),q8,f148,qn,qb,Nat.reduceAdd,Nat.zero_add,Nat.add_zero,qq,ql,B0,reduceIte,reduceEqDiff]
    refine qi (v:=lst qg v_0.Brokers) rfl ?_
    obtain ⟨v158,hx159,hF160⟩:=qm hx156
    simp only [hg154,qc (g:=109),q8,zq,qb,zw,zg,B0,reduceIte,reduceEqDiff]
    refine z5 rfl (qk zh (qk qp ze)) (qcm (fun b hb=>decide_eq_true hb) v_1.InStep (List.length v_0.Brokers:Int) v158 hx159) ?_
    simp only [hg154,qr,qb,zj,qa,qo,B0,reduceIte,reduceEqDiff]
    have e161:=qj hF160
    exact hN153 _ _ ⟨hS151,by rw [←e161]; simp only [B0,reduceIte,reduceEqDiff]⟩
   ·rw [iteF hg154] at hx156
    simp only [hg154,qc (g:=109),zz,qr,qb,zi,qa,qo,B0,reduceIte,reduceEqDiff]
    have e162:=qj hx156
    exact hN153 _ _ ⟨hS151,by rw [←e162]; simp only [B0,reduceIte,reduceEqDiff]⟩
  rintro fr163 h165 ⟨hS166,f164⟩
  simp only [List.drop_succ_cons,List.drop_zero]
  simp only [f164,qh,qa,qx,B0,reduceIte,reduceEqDiff]
  have he:=qj hF157
  subst he
  simp only [qw,B0,reduceIte,reduceEqDiff]
  exact rfl
 rw [iteF hc124] at hF
 simp only [qpk,qf,qe,qs,qb,jb,qh,qa,q1f,qy,B0,reduceIte,reduceEqDiff]
 refine qu (t:=(decide (v_1.Kind=5))) (fun hc167=>?_) (fun hc167=>?_)
 ·rw [iteT hc167] at hF
  simp only [q0y,qf,qe,qh,B0,reduceIte,reduceEqDiff]
  refine zt 4 (fun fr' h'=>Sep h' (geL h.length) ([])∧fr' 124 = .bool (((decide ((0:Int)≤v_1.Broker))&&(decide (v_1.Broker<(List.length v_0.Brokers:Int)))) &&
    (zl v_1.Epoch 0 1000))∧fr' 2 = .ref [lst qg v_0.Brokers,lst qd v_0.Parts,.int .i64 v_0.Next] 0∧fr' 3 = .ref [.int .i64 v_1.Kind,
    .int .i64 v_1.Broker,.int .i64 v_1.Epoch,.int .i64 v_1.Part,.int .i64 v_1.Stamp,lst cI v_1.InStep] 0) (fun Q168 hN169=>?_) ?_
  ·simp only [List.take_succ_cons,List.take_zero]
   simp only [qc (g:=120),B0,reduceIte,reduceEqDiff]
   refine q9 (t:=((decide ((0:Int)≤v_1.Broker))&&(decide (v_1.Broker<(List.length v_0.Brokers:Int))))) (fun hg170=>?_) (fun hg170=>?_)
   ·simp only [hg170,qc (g:=120),q8,f19,qn,qb,Nat.reduceAdd,Nat.zero_add,Nat.add_zero,qq,ql,B0,reduceIte,reduceEqDiff]
    refine qi (v := .int .i64 v_1.Epoch) rfl ?_
    simp only [hg170,qc (g:=120),q8,zg,B0,reduceIte,reduceEqDiff]
    refine z5 rfl (qk qp (qk qp (qk qp ze))) (wc (fun b hb=>decide_eq_true hb) v_1.Epoch 0 1000 _ rfl) ?_
    simp only [hg170,qr,qb,zj,qa,qo,B0,reduceIte,reduceEqDiff]
    exact hN169 _ _ ⟨hS21,by rw [kw hg170]; simp only [B0,reduceIte,reduceEqDiff],f18,f19⟩
   ·simp only [hg170,qc (g:=120),zz,qr,qb,zi,qa,qo,B0,reduceIte,reduceEqDiff]
    exact hN169 _ _ ⟨hS21,by rw [kv hg170]; simp only [B0,reduceIte,reduceEqDiff],f18,f19⟩
  rintro fr171 h175 ⟨hS176,f172,f173,f174⟩
  simp only [List.drop_succ_cons,List.drop_zero]
  simp only [f172,qh,B0,reduceIte,reduceEqDiff]
  refine zt 4 (fun fr' h'=>Sep h' (geL h.length) ([])∧fr' 129 = .bool ((((decide ((0:Int)≤v_1.Broker))&&(decide (v_1.Broker<(List.length v_0.Brokers:Int)))) &&
    (zl v_1.Epoch 0 1000))&&(zl v_1.Part 0 1000))∧fr' 2 = .ref [lst qg v_0.Brokers,lst qd v_0.Parts,
    .int .i64 v_0.Next] 0∧fr' 3 = .ref [.int .i64 v_1.Kind,.int .i64 v_1.Broker,.int .i64 v_1.Epoch,.int .i64 v_1.Part,.int .i64 v_1.Stamp,
    lst cI v_1.InStep] 0) (fun Q177 hN178=>?_) ?_
  ·simp only [List.take_succ_cons,List.take_zero]
   simp only [qc (g:=125),B0,reduceIte,reduceEqDiff]
   refine q9 (t:=(((decide ((0:Int)≤v_1.Broker))&&(decide (v_1.Broker<(List.length v_0.Brokers:Int))))&&(zl v_1.Epoch 0 1000))) (fun hg179=>?_)
     (fun hg179=>?_)
   ·simp only [hg179,qc (g:=125),q8,f174,qn,qb,Nat.reduceAdd,Nat.zero_add,Nat.add_zero,qq,ql,B0,reduceIte,reduceEqDiff]
    refine qi (v := .int .i64 v_1.Part) rfl ?_
    simp only [hg179,qc (g:=125),q8,zg,B0,reduceIte,reduceEqDiff]
    refine z5 rfl (qk qp (qk qp (qk qp ze))) (wc (fun b hb=>decide_eq_true hb) v_1.Part 0 1000 _ rfl) ?_
    simp only [hg179,qr,qb,zj,qa,qo,B0,reduceIte,reduceEqDiff]
    exact hN178 _ _ ⟨hS176,by rw [kw hg179]; simp only [B0,reduceIte,reduceEqDiff],f173,f174⟩
   ·simp only [hg179,qc (g:=125),zz,qr,qb,zi,qa,qo,B0,reduceIte,reduceEqDiff]
    exact hN178 _ _ ⟨hS176,by rw [kv hg179]; simp only [B0,reduceIte,reduceEqDiff],f173,f174⟩
  rintro fr180 h184 ⟨hS185,f181,f182,f183⟩
  simp only [List.drop_succ_cons,List.drop_zero]
  simp only [f181,qh,B0,reduceIte,reduceEqDiff]
  refine zt 4 (fun fr' h'=>Sep h' (geL h.length) ([])∧fr' 134 = .bool (((((decide ((0:Int)≤v_1.Broker))&&(decide (v_1.Broker <
    (List.length v_0.Brokers:Int))))&&(zl v_1.Epoch 0 1000))&&(zl v_1.Part 0 1000)) &&
    (zl v_1.Stamp 0 1000))∧fr' 2 = .ref [lst qg v_0.Brokers,lst qd v_0.Parts,.int .i64 v_0.Next] 0∧fr' 3 = .ref [.int .i64 v_1.Kind,
    .int .i64 v_1.Broker,.int .i64 v_1.Epoch,.int .i64 v_1.Part,.int .i64 v_1.Stamp,lst cI v_1.InStep] 0) (fun Q186 hN187=>?_) ?_
  ·simp only [List.take_succ_cons,List.take_zero]
   simp only [qc (g:=130),B0,reduceIte,reduceEqDiff]
   refine q9 (t:=((((decide ((0:Int)≤v_1.Broker))&&(decide (v_1.Broker<(List.length v_0.Brokers:Int))))&&(zl v_1.Epoch 0 1000)) &&
     (zl v_1.Part 0 1000))) (fun hg188=>?_) (fun hg188=>?_)
   ·simp only [hg188,qc (g:=130),q8,f183,qn,qb,Nat.reduceAdd,Nat.zero_add,Nat.add_zero,qq,ql,B0,reduceIte,reduceEqDiff]
    refine qi (v := .int .i64 v_1.Stamp) rfl ?_
    simp only [hg188,qc (g:=130),q8,zg,B0,reduceIte,reduceEqDiff]
    refine z5 rfl (qk qp (qk qp (qk qp ze))) (wc (fun b hb=>decide_eq_true hb) v_1.Stamp 0 1000 _ rfl) ?_
    simp only [hg188,qr,qb,zj,qa,qo,B0,reduceIte,reduceEqDiff]
    exact hN187 _ _ ⟨hS185,by rw [kw hg188]; simp only [B0,reduceIte,reduceEqDiff],f182,f183⟩
   ·simp only [hg188,qc (g:=130),zz,qr,qb,zi,qa,qo,B0,reduceIte,reduceEqDiff]
    exact hN187 _ _ ⟨hS185,by rw [kv hg188]; simp only [B0,reduceIte,reduceEqDiff],f182,f183⟩
  rintro fr189 h193 ⟨hS194,f190,f191,f192⟩
  simp only [List.drop_succ_cons,List.drop_zero]
  simp only [f190,qh,B0,reduceIte,reduceEqDiff]
  obtain ⟨v198,hx199,hF200⟩:=qm hF
  refine zt 7 (fun fr' h'=>Sep h' (geL h.length) ([])∧fr' 142 = .bool v198) (fun Q195 hN196=>?_) ?_
  ·simp only [List.take_succ_cons,List.take_zero]
   simp only [qc (g:=135),B0,reduceIte,reduceEqDiff]
   refine q9 (t:=(((((decide ((0:Int)≤v_1.Broker))&&(decide (v_1.Broker<(List.length v_0.Brokers:Int))))&&(zl v_1.Epoch 0 1000)) &&
     (zl v_1.Part 0 1000))&&(zl v_1.Stamp 0 1000))) (fun hg197=>?_) (fun hg197=>?_)
   ·rw [iteT hg197] at hx199
    simp only [hg197,qc (g:=135),q8,f192,qn,qb,Nat.reduceAdd,Nat.zero_add,Nat.add_zero,qq,ql,B0,reduceIte,reduceEqDiff]
    refine qi (v:=lst cI v_1.InStep) rfl ?_
    simp only [hg197,qc (g:=135),q8,f191,qn,qb,Nat.reduceAdd,Nat.zero_add,Nat.add_zero,qq,ql,B0,reduceIte,reduceEqDiff]
    refine qi (v:=lst qg v_0.Brokers) rfl ?_
    obtain ⟨v201,hx202,hF203⟩:=qm hx199
    simp only [hg197,qc (g:=135),q8,zq,qb,zw,zg,B0,reduceIte,reduceEqDiff]
    refine z5 rfl (qk zh (qk qp ze)) (qcm (fun b hb=>decide_eq_true hb) v_1.InStep (List.length v_0.Brokers:Int) v201 hx202) ?_
    simp only [hg197,qr,qb,zj,qa,qo,B0,reduceIte,reduceEqDiff]
    have e204:=qj hF203
    exact hN196 _ _ ⟨hS194,by rw [←e204]; simp only [B0,reduceIte,reduceEqDiff]⟩
   ·rw [iteF hg197] at hx199
    simp only [hg197,qc (g:=135),zz,qr,qb,zi,qa,qo,B0,reduceIte,reduceEqDiff]
    have e205:=qj hx199
    exact hN196 _ _ ⟨hS194,by rw [←e205]; simp only [B0,reduceIte,reduceEqDiff]⟩
  rintro fr206 h208 ⟨hS209,f207⟩
  simp only [List.drop_succ_cons,List.drop_zero]
  simp only [f207,qh,qa,qx,B0,reduceIte,reduceEqDiff]
  have he:=qj hF200
  subst he
  simp only [qw,B0,reduceIte,reduceEqDiff]
  exact rfl
 rw [iteF hc167] at hF
 simp only [q2x,qf,qe,qs,qb,jb,qh,qa,q29,qy,B0,reduceIte,reduceEqDiff]
 refine qu (t:=(decide (v_1.Kind=6))) (fun hc210=>?_) (fun hc210=>?_)
 ·rw [iteT hc210] at hF
  simp only [q0z,qf,qe,qh,B0,reduceIte,reduceEqDiff]
  refine zt 4 (fun fr' h'=>Sep h' (geL h.length) ([])∧fr' 150 = .bool (((decide ((0:Int)≤v_1.Broker))&&(decide (v_1.Broker<(List.length v_0.Brokers:Int)))) &&
    (decide (v_1.Epoch=0)))∧fr' 3 = .ref [.int .i64 v_1.Kind,.int .i64 v_1.Broker,.int .i64 v_1.Epoch,.int .i64 v_1.Part,.int .i64 v_1.Stamp,
    lst cI v_1.InStep] 0∧fr' 6 = .bool (decide ((List.length v_1.InStep:Int)=0))) (fun Q211 hN212=>?_) ?_
  ·simp only [List.take_succ_cons,List.take_zero]
   simp only [qc (g:=146),B0,reduceIte,reduceEqDiff]
   refine q9 (t:=((decide ((0:Int)≤v_1.Broker))&&(decide (v_1.Broker<(List.length v_0.Brokers:Int))))) (fun hg213=>?_) (fun hg213=>?_)
   ·simp only [hg213,qc (g:=146),q8,f19,qn,qb,Nat.reduceAdd,Nat.zero_add,Nat.add_zero,qq,ql,B0,reduceIte,reduceEqDiff]
    refine qi (v := .int .i64 v_1.Epoch) rfl ?_
    simp only [hg213,qc (g:=146),q8,qs,qb,jb,qr,zj,qa,qo,B0,reduceIte,reduceEqDiff]
    exact hN212 _ _ ⟨hS21,by rw [kw hg213]; simp only [B0,reduceIte,reduceEqDiff],f19,rfl⟩
   ·simp only [hg213,qc (g:=146),zz,qr,qb,zi,qa,qo,B0,reduceIte,reduceEqDiff]
    exact hN212 _ _ ⟨hS21,by rw [kv hg213]; simp only [B0,reduceIte,reduceEqDiff],f19,rfl⟩
  rintro fr214 h218 ⟨hS219,f215,f216,f217⟩
  simp only [List.drop_succ_cons,List.drop_zero]
  simp only [f215,qh,B0,reduceIte,reduceEqDiff]
  refine zt 4 (fun fr' h'=>Sep h' (geL h.length) ([])∧fr' 155 = .bool ((((decide ((0:Int)≤v_1.Broker))&&(decide (v_1.Broker<(List.length v_0.Brokers:Int)))) &&
    (decide (v_1.Epoch=0)))&&(zl v_1.Part 0 1000))∧fr' 3 = .ref [.int .i64 v_1.Kind,.int .i64 v_1.Broker,.int .i64 v_1.Epoch,.int .i64 v_1.Part,
    .int .i64 v_1.Stamp,lst cI v_1.InStep] 0∧fr' 6 = .bool (decide ((List.length v_1.InStep:Int)=0))) (fun Q220 hN221=>?_) ?_
  ·simp only [List.take_succ_cons,List.take_zero]
   simp only [qc (g:=151),B0,reduceIte,reduceEqDiff]
   refine q9 (t:=(((decide ((0:Int)≤v_1.Broker))&&(decide (v_1.Broker<(List.length v_0.Brokers:Int))))&&(decide (v_1.Epoch=0)))) (fun hg222=>?_)
     (fun hg222=>?_)
   ·simp only [hg222,qc (g:=151),q8,f216,qn,qb,Nat.reduceAdd,Nat.zero_add,Nat.add_zero,qq,ql,B0,reduceIte,reduceEqDiff]
    refine qi (v := .int .i64 v_1.Part) rfl ?_
    simp only [hg222,qc (g:=151),q8,zg,B0,reduceIte,reduceEqDiff]
    refine z5 rfl (qk qp (qk qp (qk qp ze))) (wc (fun b hb=>decide_eq_true hb) v_1.Part 0 1000 _ rfl) ?_
    simp only [hg222,qr,qb,zj,qa,qo,B0,reduceIte,reduceEqDiff]
    exact hN221 _ _ ⟨hS219,by rw [kw hg222]; simp only [B0,reduceIte,reduceEqDiff],f216,f217⟩
   ·simp only [hg222,qc (g:=151),zz,qr,qb,zi,qa,qo,B0,reduceIte,reduceEqDiff]
    exact hN221 _ _ ⟨hS219,by rw [kv hg222]; simp only [B0,reduceIte,reduceEqDiff],f216,f217⟩
  rintro fr223 h227 ⟨hS228,f224,f225,f226⟩
  simp only [List.drop_succ_cons,List.drop_zero]
  simp only [f224,qh,B0,reduceIte,reduceEqDiff]
  refine zt 4 (fun fr' h'=>Sep h' (geL h.length) ([])∧fr' 160 = .bool (((((decide ((0:Int)≤v_1.Broker))&&(decide (v_1.Broker <
    (List.length v_0.Brokers:Int))))&&(decide (v_1.Epoch=0)))&&(zl v_1.Part 0 1000))&&(decide (v_1.Stamp=0)))∧fr' 6 = .bool (decide
    ((List.length v_1.InStep:Int)=0))) (fun Q229 hN230=>?_) ?_
  ·simp only [List.take_succ_cons,List.take_zero]
   simp only [qc (g:=156),B0,reduceIte,reduceEqDiff]
   refine q9 (t:=((((decide ((0:Int)≤v_1.Broker))&&(decide (v_1.Broker<(List.length v_0.Brokers:Int))))&&(decide (v_1.Epoch=0))) &&
     (zl v_1.Part 0 1000))) (fun hg231=>?_) (fun hg231=>?_)
   ·simp only [hg231,qc (g:=156),q8,f225,qn,qb,Nat.reduceAdd,Nat.zero_add,Nat.add_zero,qq,ql,B0,reduceIte,reduceEqDiff]
    refine qi (v := .int .i64 v_1.Stamp) rfl ?_
    simp only [hg231,qc (g:=156),q8,qs,qb,jb,qr,zj,qa,qo,B0,reduceIte,reduceEqDiff]
    exact hN230 _ _ ⟨hS228,by rw [kw hg231]; simp only [B0,reduceIte,reduceEqDiff],f226⟩
   ·simp only [hg231,qc (g:=156),zz,qr,qb,zi,qa,qo,B0,reduceIte,reduceEqDiff]
    exact hN230 _ _ ⟨hS228,by rw [kv hg231]; simp only [B0,reduceIte,reduceEqDiff],f226⟩
  rintro fr232 h235 ⟨hS236,f233,f234⟩
  simp only [List.drop_succ_cons,List.drop_zero]
  simp only [f233,qh,B0,reduceIte,reduceEqDiff]
  refine zt 2 (fun fr' h'=>Sep h' (geL h.length) ([])∧fr' 163 = .bool ((((((decide ((0:Int)≤v_1.Broker))&&(decide (v_1.Broker <
    (List.length v_0.Brokers:Int))))&&(decide (v_1.Epoch=0)))&&(zl v_1.Part 0 1000))&&(decide (v_1.Stamp=0)))&&(decide
    ((List.length v_1.InStep:Int)=0)))) (fun Q237 hN238=>?_) ?_
  ·simp only [List.take_succ_cons,List.take_zero]
   simp only [qc (g:=161),B0,reduceIte,reduceEqDiff]
   refine q9 (t:=(((((decide ((0:Int)≤v_1.Broker))&&(decide (v_1.Broker<(List.length v_0.Brokers:Int))))&&(decide (v_1.Epoch=0))) &&
     (zl v_1.Part 0 1000))&&(decide (v_1.Stamp=0)))) (fun hg239=>?_) (fun hg239=>?_)
   ·simp only [hg239,qc (g:=161),q8,f234,qh,qr,qb,zj,qa,qo,B0,reduceIte,reduceEqDiff]
    exact hN238 _ _ ⟨hS236,by rw [kw hg239]; simp only [B0,reduceIte,reduceEqDiff]⟩
   ·simp only [hg239,qc (g:=161),zz,qr,qb,zi,qa,qo,B0,reduceIte,reduceEqDiff]
    exact hN238 _ _ ⟨hS236,by rw [kv hg239]; simp only [B0,reduceIte,reduceEqDiff]⟩
  rintro fr240 h242 ⟨hS243,f241⟩
  simp only [List.drop_succ_cons,List.drop_zero]
  simp only [f241,qh,qa,qx,B0,reduceIte,reduceEqDiff]
  have he:=qj hF
  subst he
  simp only [qw,B0,reduceIte,reduceEqDiff]
  exact rfl
 rw [iteF hc210] at hF
 simp only [za,kj,qf,qe,qh,qa,qx,B0,reduceIte,reduceEqDiff]
 have he:=qj hF
 subst he
 simp only [qw,B0,reduceIte,reduceEqDiff]
 exact rfl
end Go.Proofs.Ytjloihcijdcpeaa.X
