/- The functions' code comes to what the plain functions say (2). -/
import Derived.Test.YtjloihcijdcpeaaXEH1
open Go.IntKind renaming wrap→d8
open List renaming drop_succ_cons→b7,drop_zero→e8,length→b6,take_succ_cons→d7,take_zero→e9
open Nat renaming add_zero→b4,reduceAdd→a8,reduceEqDiff→a7,zero_add→a9
open Go.Proofs.Ytjloihcijdcpeaa.X.Sep renaming nil→a0t
set_option linter.unusedVariables false
set_option linter.unusedSimpArgs false
set_option maxRecDepth 100000
namespace Go.Proofs.Ytjloihcijdcpeaa.X
open Go
theorem qgd {W:Nat→Bool}{h:Heap} (hW:∀ b,
  (geL h.length) b→W b=true) (c_0:Control) (r:Bool) (hF:wd c_0=some r) : Ret E W 14 [.agg [lst qe c_0.Brokers,lst qd c_0.Parts,
  .int .i64 c_0.Next]] h (fun v h'=>cut h.length h' E.sz false 9 v=some (.bool r)):=by
 refine Ret.of (fn:=x14) rfl (Run.of ?_)
 unfold wd at hF
 have zf0:zj [.agg [lst qe c_0.Brokers,lst qd c_0.Parts,.int .i64 c_0.Next]] 0 = .agg [lst qe c_0.Brokers,lst qd c_0.Parts,
   .int .i64 c_0.Next]:=rfl
 generalize zj [.agg [lst qe c_0.Brokers,lst qd c_0.Parts,.int .i64 c_0.Next]]=fr0 at zf0 ⊢
 have hS:Sep h (geL h.length) []:=a0t h
 simp only [x14,qh,qf,jp,zf0,B0,reduceIte,a7]
 refine jc (cs:=[lst qe c_0.Brokers,lst qd c_0.Parts,.int .i64 c_0.Next]) hS rfl rfl rfl (fun b1 h2 hS3=>?_)
 simp only [qg,qa,B0,reduceIte,a7]
 refine zq hS3 hW (by simp only [B0,reduceIte,a7]) (fun h5 hS6=>?_)
 simp only [zp,qh,qf,qm,B0,reduceIte,a7]
 refine qi (v := .agg [lst qe c_0.Brokers,lst qd c_0.Parts,.int .i64 c_0.Next]) rfl ?_
 obtain ⟨v7,hx8,hF9⟩:=qk hF
 simp only [za,B0,reduceIte,a7]
 refine ja rfl (ql (z4 (ql zn (ql zn (ql qu zd)))) zd) (qa9 (fun b hb=>decide_eq_true hb) c_0 v7 hx8) ?_
 simp only [qg,qa,q8,B0,reduceIte,a7]
 have he:=qj hF9
 subst he
 simp only [zg,B0,reduceIte,a7]
 exact rfl
theorem qpj {W:Nat→Bool}{h:Heap} (hW:∀ b,
  (geL h.length) b→W b=true) (l_0:List Int) (n_1:Int) (r:Bool) (hF:qg6 l_0 n_1=some r) : Ret E W 15 [lst cI l_0,
  .int .i64 n_1] h (fun v h'=>cut h.length h' E.sz false 9 v=some (.bool r)):=by
 refine Ret.of (fn:=x15) rfl (Run.of ?_)
 unfold qg6 at hF
 have zf0:zj [lst cI l_0,.int .i64 n_1] 0=lst cI l_0:=rfl
 have zf1:zj [lst cI l_0,.int .i64 n_1] 1 = .int .i64 n_1:=rfl
 generalize zj [lst cI l_0,.int .i64 n_1]=fr0 at zf0 zf1 ⊢
 have hS:Sep h (geL h.length) []:=a0t h
 simp only [x15,qh,qf,qg,qa,q7a,zf0,zx,qb,z1,B0,reduceIte,a7]
 obtain ⟨oc3,hX5,hk6⟩:=jo hF
 simp only [q3l]
 refine ku (σ:=Unit) l_0 (fun i1 x2 _=>qfq n_1 i1 x2 ) (fun s fr' h'=>fr' 1 = .int .i64 n_1∧fr' 7=lst cI l_0∧Sep h' (geL h.length) ([])) hX5 ⟨zf1,rfl,
   hS⟩ (by simp only [B0,reduceIte,a7]) (by simp only [B0,reduceIte,
   a7]) (fun _ _ _ h=>h) rfl rfl (fun _ _ _ _ h=>h) (fun _ _ _ _ h=>h) (fun _ _ _ _ h=>h) (by decide) ?_ ?_
 ·rintro i1 x2 _ fr15 h16 hx20 ⟨f18,f19,hS17⟩ f21 f22 oc4 hF7 hr8 Q9 hN10 hB14 hK11 hR12 hE13
  unfold qfq at hF7
  simp only [q31,qh,qf,f19,f21,jf,B0,reduceIte,a7]
  refine qi (v := .ref (cI x2) 0) (kt hx20 rfl) ?_
  simp only [qm,B0,reduceIte,a7]
  refine qi (v := .int .i64 x2) rfl ?_
  simp only [qg,qa,q4s,qh,qf,f18,qv,qb,z8,qz,B0,reduceIte,a7]
  refine qx (t:=(decide (x2=n_1))) (fun hc23=>?_) (fun hc23=>?_)
  ·rw [iteT hc23] at hF7
   simp only [qh,qf,qg,qa,q8,B0,reduceIte,a7]
   have e24:=qj hF7
   subst e24
   have ho25:=hr8 _ rfl
   have hk26:=hk6
   rw [ho25] at hk26
   dsimp only [jnO] at hk26
   apply hR12
   have he:=qj hk26
   subst he
   simp only [zg,B0,reduceIte,a7]
   exact rfl
  rw [iteF hc23] at hF7
  simp only [zf,qn,B0,reduceIte,a7]
  have e27:=qj hF7
  exact hN10 _ _ _ e27.symm ⟨f18,f19,hS17⟩ (f21) (f22)
 rintro _ fr29 h30 rfl ⟨f32,f33,hS31⟩
 dsimp only [jnO] at hk6
 unfold qjw at hk6
 simp only [qh,qf,qg,qa,q8,B0,reduceIte,a7]
 have he:=qj hk6
 subst he
 simp only [zg,B0,reduceIte,a7]
 exact rfl
theorem qlj {W:Nat→Bool}{h:Heap} (hW:∀ b,
  (geL h.length) b→W b=true) (c_0:Control) (broker_1:Int) (r:(List Int) × Bool)
  (hF:qbb c_0 broker_1=some r) : Ret E W 16 [.agg [lst qe c_0.Brokers,lst qd c_0.Parts,.int .i64 c_0.Next],
  .int .i64 broker_1] h (fun v h'=>∃ rv0 rc0,v = .tup [rv0,.bool r.2]∧SlF cI 1 3 rv0 r.1 rc0∧Sep h' (geL h.length) (rc0++([]))):=by
 refine Ret.of (fn:=x16) rfl (Run.of ?_)
 unfold qbb at hF
 have zf0:zj [.agg [lst qe c_0.Brokers,lst qd c_0.Parts,.int .i64 c_0.Next],.int .i64 broker_1] 0 = .agg [lst qe c_0.Brokers,
   lst qd c_0.Parts,.int .i64 c_0.Next]:=rfl
 have zf1:zj [.agg [lst qe c_0.Brokers,lst qd c_0.Parts,.int .i64 c_0.Next],.int .i64 broker_1] 1 = .int .i64 broker_1:=rfl
 generalize zj [.agg [lst qe c_0.Brokers,lst qd c_0.Parts,.int .i64 c_0.Next],.int .i64 broker_1]=fr0 at zf0 zf1 ⊢
 have hS:Sep h (geL h.length) []:=a0t h
 simp only [x16,qh,qf,jp,zf0,B0,reduceIte,a7]
 refine jc (cs:=[lst qe c_0.Brokers,lst qd c_0.Parts,.int .i64 c_0.Next]) hS rfl rfl rfl (fun b1 h2 hS3=>?_)
 simp only [qg,qa,B0,reduceIte,a7]
 refine zq hS3 hW (by simp only [B0,reduceIte,a7]) (fun h5 hS6=>?_)
 simp only [zp,qzg,qh,qf,qm,B0,reduceIte,a7]
 refine qi (v := .agg [lst qe c_0.Brokers,lst qd c_0.Parts,.int .i64 c_0.Next]) rfl ?_
 obtain ⟨v7,hx8,hF9⟩:=qk hF
 simp only [za,B0,reduceIte,a7]
 refine ja rfl (ql (z4 (ql zn (ql zn (ql qu zd)))) zd) (qa9 (fun b hb=>decide_eq_true hb) c_0 v7 hx8) ?_
 simp only [je,qb,jt,qg,B0,reduceIte,a7]
 refine zr 8 (fun fr' h'=>Sep h' (geL h.length) ([])∧fr' 17 = .bool ((!v7)||(!(z0 broker_1 0 (d8 .i64
   ((b6 c_0.Brokers:Int) - 1)))))∧fr' 1 = .int .i64 broker_1∧fr' 2 = .ref [lst qe c_0.Brokers,lst qd c_0.Parts,
   .int .i64 c_0.Next] 0) (fun Q10 hN11=>?_) ?_
 ·simp only [d7,e9]
  simp only [qc (g:=9),B0,reduceIte,a7]
  refine qy (t:=(!v7)) (fun hg12=>?_) (fun hg12=>?_)
  ·simp only [hg12,qc (g:=9),zv,qr,qb,zh,qa,qn,B0,reduceIte,a7]
   exact hN11 _ _ ⟨hS6,by rw [orT hg12]; simp only [B0,reduceIte,a7],zf1,rfl⟩
  ·simp only [hg12,qc (g:=9),qq,zf1,qg,qp,qb,a8,a9,b4,qs,qm,B0,reduceIte,a7]
   refine qi (v:=lst qe c_0.Brokers) rfl ?_
   simp only [hg12,qc (g:=9),qq,zx,qb,z1,qv,qe1,za,B0,reduceIte,a7]
   refine ja rfl (ql qu (ql qu (ql qu zd))) (xk (fun b hb=>decide_eq_true hb) broker_1 0 (d8 .i64
     ((b6 c_0.Brokers:Int) - 1)) _ rfl) ?_
   simp only [hg12,qc (g:=9),qq,je,qb,jt,qr,zi,qa,qn,B0,reduceIte,a7]
   exact hN11 _ _ ⟨hS6,by rw [orF hg12]; simp only [B0,reduceIte,a7],zf1,rfl⟩
 rintro fr13 h17 ⟨hS18,f14,f15,f16⟩
 simp only [b7,e8]
 simp only [qa,q38,f14,qz,B0,reduceIte,a7]
 refine qx (t:=((!v7)||(!(z0 broker_1 0 (d8 .i64 ((b6 c_0.Brokers:Int) - 1)))))) (fun hc19=>?_) (fun hc19=>?_)
 ·rw [iteT hc19] at hF9
  simp only [qh,qf,qg,qa,q8,B0,reduceIte,a7]
  have he:=qj hF9
  subst he
  simp only [ur,B0,reduceIte,a7]
  exact ⟨.nil,[],by first | trivial | rfl,SlF.nil,(hS18:Sep _ (geL h.length) ([]))⟩
 rw [iteF hc19] at hF9
 simp only [zf,q3p,qh,qf,f16,qm,B0,reduceIte,a7]
 refine qi (v := .agg [lst qe c_0.Brokers,lst qd c_0.Parts,.int .i64 c_0.Next]) rfl ?_
 obtain ⟨v20,hx21,hF22⟩:=qk hF9
 simp only [f15,qg,za,B0,reduceIte,a7]
 refine wq rfl hS18 (ql (z4 (ql zn (ql zn (ql qu zd)))) (ql qu zd)) (qen
   (fun b hb=>decide_eq_true hb) c_0 broker_1 v20 hx21) ?_
 rintro v23 h27 ⟨_,c24,rfl,hv25,hS28⟩
 refine ⟨_,qt0 (SlF.free1 hv25),hS28,(jg (SlF.pf hv25 (fun _=>rfl)) ye),fun h29 hS30=>?_⟩
 have hS31:Sep h29 (geL h.length) (c24++([])):=by simpa only [List.append_assoc,List.nil_append] using hS30
 simp only [qg,qa,q8,B0,reduceIte,a7]
 have he:=qj hF22
 subst he
 simp only [ur,B0,reduceIte,a7]
 exact ⟨v23,c24,by first | trivial | rfl,hv25,hS31⟩
theorem w5 {W:Nat→Bool}{h:Heap} (hW:∀ b,
  (geL h.length) b→W b=true) (n_0:Int) (lo_1:Int) (hi_2:Int) (r:Bool) (hF:some (zu n_0 lo_1 hi_2)=some r) : Ret E W 58 [.int .i64 n_0,.int .i64 lo_1,
  .int .i64 hi_2] h (fun v h'=>cut h.length h' E.sz false 9 v=some (.bool r)):=by
 refine Ret.of (fn:=x58) rfl (Run.of ?_)
 unfold zu at hF
 have zf0:zj [.int .i64 n_0,.int .i64 lo_1,.int .i64 hi_2] 0 = .int .i64 n_0:=rfl
 have zf1:zj [.int .i64 n_0,.int .i64 lo_1,.int .i64 hi_2] 1 = .int .i64 lo_1:=rfl
 have zf2:zj [.int .i64 n_0,.int .i64 lo_1,.int .i64 hi_2] 2 = .int .i64 hi_2:=rfl
 generalize zj [.int .i64 n_0,.int .i64 lo_1,.int .i64 hi_2]=fr0 at zf0 zf1 zf2 ⊢
 have hS:Sep h (geL h.length) []:=a0t h
 simp only [x58,qh,qf,qg,qa,qy6,zf0,zf1,qv,qb,qcg,B0,reduceIte,a7]
 refine zr 4 (fun fr' h'=>Sep h' (geL h.length) ([])∧fr' 14 = .bool ((decide (lo_1≤n_0))&&(decide (n_0≤hi_2)))) (fun Q1 hN2=>?_) ?_
 ·simp only [d7,e9]
  simp only [qc (g:=10),B0,reduceIte,a7]
  refine qy (t:=(decide (lo_1≤n_0))) (fun hg3=>?_) (fun hg3=>?_)
  ·simp only [hg3,qc (g:=10),qw,zf0,qg,zf2,qv,qb,qp4,qr,zh,qa,qn,B0,reduceIte,a7]
   exact hN2 _ _ ⟨hS,by rw [k8 hg3]; simp only [B0,reduceIte,a7]⟩
  ·simp only [hg3,qc (g:=10),zy,qr,qb,zi,qa,qn,B0,reduceIte,a7]
   exact hN2 _ _ ⟨hS,by rw [k9 hg3]; simp only [B0,reduceIte,a7]⟩
 rintro fr4 h6 ⟨hS7,f5⟩
 simp only [b7,e8]
 simp only [f5,qg,qa,q8,B0,reduceIte,a7]
 have he:=qj hF
 subst he
 simp only [zg,B0,reduceIte,a7]
 exact rfl
theorem qdm {W:Nat→Bool}{h:Heap} (hW:∀ b,
  (geL h.length) b→W b=true) (l_0:List Int) (many_1:Int) (r:Bool) (hF:qaa l_0 many_1=some r) : Ret E W 82 [lst cI l_0,
  .int .i64 many_1] h (fun v h'=>cut h.length h' E.sz false 9 v=some (.bool r)):=by
 refine Ret.of (fn:=x82) rfl (Run.of ?_)
 unfold qaa at hF
 have zf0:zj [lst cI l_0,.int .i64 many_1] 0=lst cI l_0:=rfl
 have zf1:zj [lst cI l_0,.int .i64 many_1] 1 = .int .i64 many_1:=rfl
 generalize zj [lst cI l_0,.int .i64 many_1]=fr0 at zf0 zf1 ⊢
 have hS:Sep h (geL h.length) []:=a0t h
 simp only [x82,qh,qf,qg,qa,q34,zf0,zx,qb,z1,B0,reduceIte,a7]
 obtain ⟨oc3,hX5,hk6⟩:=jo hF
 simp only [q1j]
 refine ku (σ:=Unit) l_0 (fun i1 x2 _=>qc0 l_0 many_1 i1 x2 ) (fun s fr' h'=>fr' 0=lst cI l_0∧fr' 1 = .int .i64 many_1∧fr' 7=lst cI l_0∧Sep h'
   (geL h.length) ([])) hX5 ⟨zf0,zf1,rfl,hS⟩ (by simp only [B0,reduceIte,a7]) (by simp only [B0,reduceIte,
   a7]) (fun _ _ _ h=>h) rfl rfl (fun _ _ _ _ h=>h) (fun _ _ _ _ h=>h) (fun _ _ _ _ h=>h) (by decide) ?_ ?_
 ·rintro i1 x2 _ fr15 h16 hx21 ⟨f18,f19,f20,hS17⟩ f22 f23 oc4 hF7 hr8 Q9 hN10 hB14 hK11 hR12 hE13
  unfold qc0 at hF7
  simp only [q1w,qh,qf,f22,qg,f20,jf,B0,reduceIte,a7]
  refine qi (v := .ref (cI x2) 0) (kt hx21 rfl) ?_
  simp only [qm,B0,reduceIte,a7]
  refine qi (v := .int .i64 x2) rfl ?_
  simp only [qg,qa,qy7,qh,qf,qv,qb,qfi,B0,reduceIte,a7]
  refine zr 4 (fun fr' h'=>Sep h' (geL h.length) ([])∧fr' 20 = .bool ((decide (x2<0))||(decide
    (many_1≤x2)))∧fr' 0=lst cI l_0∧fr' 1 = .int .i64 many_1∧fr' 5 = .int .i64 (i1:Int)∧fr' 6 = .int .i64 x2∧fr' 7=lst cI l_0∧fr' 8 = .int .i64
    (b6 l_0:Int)∧fr' 9 = .int .i64 (i1:Int)) (fun Q24 hN25=>?_) ?_
  ·simp only [d7,e9]
   simp only [qc (g:=16),B0,reduceIte,a7]
   refine qy (t:=(decide (x2<0))) (fun hg26=>?_) (fun hg26=>?_)
   ·simp only [hg26,qc (g:=16),zv,qr,qb,zh,qa,qn,B0,reduceIte,a7]
    exact hN25 _ _ ⟨hS17,by rw [orT hg26]; simp only [B0,reduceIte,a7],f18,f19,rfl,rfl,f20,f23,f22⟩
   ·simp only [hg26,qc (g:=16),qq,qg,f19,qv,qb,qcg,qr,zi,qa,qn,B0,reduceIte,a7]
    exact hN25 _ _ ⟨hS17,by rw [orF hg26]; simp only [B0,reduceIte,a7],f18,f19,rfl,rfl,f20,f23,f22⟩
  rintro fr27 h36 ⟨hS37,f28,f29,f30,f31,f32,f33,f34,f35⟩
  simp only [b7,e8]
  simp only [f28,qg,B0,reduceIte,a7]
  obtain ⟨v41,hx42,hF43⟩:=qk hF7
  refine zr 12 (fun fr' h'=>Sep h' (geL h.length) ([])∧fr' 33 = .bool v41∧fr' 0=lst cI l_0∧fr' 1 = .int .i64 many_1∧fr' 7=lst cI l_0∧fr' 8 = .int .i64
    (b6 l_0:Int)∧fr' 9 = .int .i64 (i1:Int)) (fun Q38 hN39=>?_) ?_
  ·simp only [d7,e9]
   simp only [qc (g:=21),B0,reduceIte,a7]
   refine qy (t:=((decide (x2<0))||(decide (many_1≤x2)))) (fun hg40=>?_) (fun hg40=>?_)
   ·rw [iteT hg40] at hx42
    simp only [hg40,qc (g:=21),zv,qc (g:=24),u4,qr,qb,zh,qa,qn,B0,reduceIte,a7]
    have e44:=qj hx42
    exact hN39 _ _ ⟨hS37,by rw [←e44]; simp only [B0,reduceIte,a7],f29,f30,f33,f34,f35⟩
   ·rw [iteF hg40] at hx42
    simp only [hg40,qc (g:=21),qq,f31,qg,qv,qb,qc7,B0,reduceIte,a7]
    obtain ⟨v48,hx49,hF50⟩:=qk hx42
    refine zr 8 (fun fr' h'=>Sep h' (geL h.length) ([])∧fr' 32 = .bool v48∧fr' 0=lst cI l_0∧fr' 1 = .int .i64 many_1∧fr' 7=lst cI l_0∧fr' 8 = .int .i64
      (b6 l_0:Int)∧fr' 9 = .int .i64 (i1:Int)∧fr' 21 = .bool ((decide (x2<0))||(decide (many_1≤x2)))) (fun Q45 hN46=>?_) ?_
    ·simp only [d7,e9]
     simp only [qc (g:=24),B0,reduceIte,a7]
     refine qy (t:=(decide ((0:Int)<(i1:Int)))) (fun hg47=>?_) (fun hg47=>?_)
     ·rw [iteT hg47] at hx49
      obtain ⟨x51,hx52,hF53⟩:=qk hx49
      simp only [hg47,qc (g:=24),qw,f29,qg,f31,qv,qb,qe1,jf,B0,reduceIte,a7]
      refine qi (v := .ref (cI x51) 0) (uw hx52 rfl) ?_
      simp only [hg47,qc (g:=24),qw,qm,B0,reduceIte,a7]
      refine qi (v := .int .i64 x51) rfl ?_
      simp only [hg47,qc (g:=24),qw,f32,qg,qv,qb,qcg,hg40,qc (g:=21),qq,qr,zh,qa,
        qn,B0,reduceIte,a7]
      have e54:=qj hF53
      exact hN46 _ _ ⟨hS37,by rw [←e54]; simp only [B0,reduceIte,a7],f29,f30,f33,f34,f35,by simp only [hg40,B0,reduceIte,a7]⟩
     ·rw [iteF hg47] at hx49
      simp only [hg47,qc (g:=24),zy,hg40,qc (g:=21),qq,qr,qb,zi,qa,qn,B0,reduceIte,
        a7]
      have e55:=qj hx49
      exact hN46 _ _ ⟨hS37,by rw [←e55]; simp only [B0,reduceIte,a7],f29,f30,f33,f34,f35,by simp only [hg40,B0,reduceIte,a7]⟩
    rintro fr56 h64 ⟨hS65,f57,f58,f59,f60,f61,f62,f63⟩
    simp only [b7,e8]
    simp only [f63,hg40,qr,qb,zi,f57,qa,qn,B0,reduceIte,a7]
    have e66:=qj hF50
    exact hN39 _ _ ⟨hS65,by rw [←e66]; simp only [B0,reduceIte,a7],f58,f59,f60,f61,f62⟩
  rintro fr67 h74 ⟨hS75,f68,f69,f70,f71,f72,f73⟩
  simp only [b7,e8]
  simp only [qa,f68,qz,B0,reduceIte,a7]
  refine qx (t:=v41) (fun hc76=>?_) (fun hc76=>?_)
  ·rw [iteT hc76] at hF43
   simp only [qh,qf,qg,qa,q8,B0,reduceIte,a7]
   have e77:=qj hF43
   subst e77
   have ho78:=hr8 _ rfl
   have hk79:=hk6
   rw [ho78] at hk79
   dsimp only [jnO] at hk79
   apply hR12
   have he:=qj hk79
   subst he
   simp only [zg,B0,reduceIte,a7]
   exact rfl
  rw [iteF hc76] at hF43
  simp only [zf,qn,B0,reduceIte,a7]
  have e80:=qj hF43
  exact hN10 _ _ _ e80.symm ⟨f69,f70,f71,hS75⟩ (f73) (f72)
 rintro _ fr82 h83 rfl ⟨f85,f86,f87,hS84⟩
 dsimp only [jnO] at hk6
 unfold qhm at hk6
 simp only [qh,qf,qg,qa,q8,B0,reduceIte,a7]
 have he:=qj hk6
 subst he
 simp only [zg,B0,reduceIte,a7]
 exact rfl
theorem qc5 {W:Nat→Bool}{h:Heap} (hW:∀ b,
  (geL h.length) b→W b=true) (l_0:List Int) (n_1:Int) (r:Bool) (hF:qas l_0 n_1=some r) : Ret E W 84 [lst cI l_0,
  .int .i64 n_1] h (fun v h'=>cut h.length h' E.sz false 9 v=some (.bool r)):=by
 refine Ret.of (fn:=x84) rfl (Run.of ?_)
 unfold qas at hF
 have zf0:zj [lst cI l_0,.int .i64 n_1] 0=lst cI l_0:=rfl
 have zf1:zj [lst cI l_0,.int .i64 n_1] 1 = .int .i64 n_1:=rfl
 generalize zj [lst cI l_0,.int .i64 n_1]=fr0 at zf0 zf1 ⊢
 have hS:Sep h (geL h.length) []:=a0t h
 simp only [x84,qh,qf,qg,qa,q36,zf0,zx,qb,z1,B0,reduceIte,a7]
 obtain ⟨oc3,hX5,hk6⟩:=jo hF
 simp only [q03]
 refine ku (σ:=Unit) l_0 (fun i1 x2 _=>qd3 n_1 i1 x2 ) (fun s fr' h'=>fr' 1 = .int .i64 n_1∧fr' 7=lst cI l_0∧Sep h' (geL h.length) ([])) hX5 ⟨zf1,
   rfl,hS⟩ (by simp only [B0,reduceIte,a7]) (by simp only [B0,reduceIte,
   a7]) (fun _ _ _ h=>h) rfl rfl (fun _ _ _ _ h=>h) (fun _ _ _ _ h=>h) (fun _ _ _ _ h=>h) (by decide) ?_ ?_
 ·rintro i1 x2 _ fr15 h16 hx20 ⟨f18,f19,hS17⟩ f21 f22 oc4 hF7 hr8 Q9 hN10 hB14 hK11 hR12 hE13
  unfold qd3 at hF7
  simp only [q44,qh,qf,f19,f21,jf,B0,reduceIte,a7]
  refine qi (v := .ref (cI x2) 0) (kt hx20 rfl) ?_
  simp only [qm,B0,reduceIte,a7]
  refine qi (v := .int .i64 x2) rfl ?_
  simp only [qg,qa,qzj,qh,qf,f18,qv,qb,z8,qz,B0,reduceIte,a7]
  refine qx (t:=(decide (x2=n_1))) (fun hc23=>?_) (fun hc23=>?_)
  ·rw [iteT hc23] at hF7
   simp only [qh,qf,qg,qa,q8,B0,reduceIte,a7]
   have e24:=qj hF7
   subst e24
   have ho25:=hr8 _ rfl
   have hk26:=hk6
   rw [ho25] at hk26
   dsimp only [jnO] at hk26
   apply hR12
   have he:=qj hk26
   subst he
   simp only [zg,B0,reduceIte,a7]
   exact rfl
  rw [iteF hc23] at hF7
  simp only [zf,qn,B0,reduceIte,a7]
  have e27:=qj hF7
  exact hN10 _ _ _ e27.symm ⟨f18,f19,hS17⟩ (f21) (f22)
 rintro _ fr29 h30 rfl ⟨f32,f33,hS31⟩
 dsimp only [jnO] at hk6
 unfold qiy at hk6
 simp only [qh,qf,qg,qa,q8,B0,reduceIte,a7]
 have he:=qj hk6
 subst he
 simp only [zg,B0,reduceIte,a7]
 exact rfl
theorem qhn {W:Nat→Bool}{h:Heap} (hW:∀ b,
  (geL h.length) b→W b=true) (c_0:Control) (l_1:List Int) (r:Int) (hF:qbi c_0 l_1=some r) : Ret E W 85 [.agg [lst qe c_0.Brokers,
  lst qd c_0.Parts,.int .i64 c_0.Next],lst cI l_1] h (fun v h'=>cut h.length h' E.sz false 9 v=some (.int .i64 r)):=by
 refine Ret.of (fn:=x85) rfl (Run.of ?_)
 unfold qbi at hF
 have zf0:zj [.agg [lst qe c_0.Brokers,lst qd c_0.Parts,.int .i64 c_0.Next],lst cI l_1] 0 = .agg [lst qe c_0.Brokers,
   lst qd c_0.Parts,.int .i64 c_0.Next]:=rfl
 have zf1:zj [.agg [lst qe c_0.Brokers,lst qd c_0.Parts,.int .i64 c_0.Next],lst cI l_1] 1=lst cI l_1:=rfl
 generalize zj [.agg [lst qe c_0.Brokers,lst qd c_0.Parts,.int .i64 c_0.Next],lst cI l_1]=fr0 at zf0 zf1 ⊢
 have hS:Sep h (geL h.length) []:=a0t h
 simp only [x85,qh,qf,jp,zf0,B0,reduceIte,a7]
 refine jc (cs:=[lst qe c_0.Brokers,lst qd c_0.Parts,.int .i64 c_0.Next]) hS rfl rfl rfl (fun b1 h2 hS3=>?_)
 simp only [qg,qa,B0,reduceIte,a7]
 refine zq hS3 hW (by simp only [B0,reduceIte,a7]) (fun h5 hS6=>?_)
 simp only [zp,q25,qh,qf,zf1,qg,zx,qb,z1,qa,B0,reduceIte,a7]
 obtain ⟨oc9,hX11,hk12⟩:=jo hF
 simp only [q0c]
 refine ku (σ:=Unit) l_1 (fun i7 x8 _=>wa c_0 i7 x8 ) (fun s fr' h'=>fr' 2 = .ref [lst qe c_0.Brokers,lst qd c_0.Parts,
   .int .i64 c_0.Next] 0∧fr' 7=lst cI l_1∧Sep h' (geL h.length) ([])) hX11 ⟨rfl,rfl,hS6⟩ (by simp only [B0,reduceIte,a7]) (by simp only [B0,reduceIte,
   a7]) (fun _ _ _ h=>h) rfl rfl (fun _ _ _ _ h=>h) (fun _ _ _ _ h=>h) (fun _ _ _ _ h=>h) (by decide) ?_ ?_
 ·rintro i7 x8 _ fr21 h22 hx26 ⟨f24,f25,hS23⟩ f27 f28 oc10 hF13 hr14 Q15 hN16 hB20 hK17 hR18 hE19
  unfold wa at hF13
  simp only [q16,qh,qf,f25,f27,jf,B0,reduceIte,a7]
  refine qi (v := .ref (cI x8) 0) (kt hx26 rfl) ?_
  simp only [qm,B0,reduceIte,a7]
  refine qi (v := .int .i64 x8) rfl ?_
  simp only [qg,qa,q0a,qh,qf,f24,qp,qb,a8,a9,b4,qs,qm,B0,reduceIte,a7]
  refine qi (v:=lst qe c_0.Brokers) rfl ?_
  obtain ⟨x29,hx30,hF31⟩:=qk hF13
  simp only [qg,jf,B0,reduceIte,a7]
  refine qi (v := .ref (qe x29) 0) (uw hx30 rfl) ?_
  simp only [qp,qb,a8,a9,b4,qs,qm,B0,reduceIte,a7]
  refine qi (v := .bool x29.Fenced) rfl ?_
  simp only [je,qb,jt,qa,q7m,qz,B0,reduceIte,a7]
  refine qx (t:=(!x29.Fenced)) (fun hc32=>?_) (fun hc32=>?_)
  ·rw [iteT hc32] at hF31
   simp only [qh,qf,qg,qa,q8,B0,reduceIte,a7]
   have e33:=qj hF31
   subst e33
   have ho34:=hr14 _ rfl
   have hk35:=hk12
   rw [ho34] at hk35
   dsimp only [jnO] at hk35
   apply hR18
   have he:=qj hk35
   subst he
   simp only [zg,B0,reduceIte,a7]
   exact rfl
  rw [iteF hc32] at hF31
  simp only [zf,qn,B0,reduceIte,a7]
  have e36:=qj hF31
  exact hN16 _ _ _ e36.symm ⟨f24,f25,hS23⟩ (f27) (f28)
 rintro _ fr38 h39 rfl ⟨f41,f42,hS40⟩
 dsimp only [jnO] at hk12
 unfold qhe at hk12
 simp only [qh,qf,qg,qa,q8,B0,reduceIte,a7]
 have he:=qj hk12
 subst he
 simp only [zg,B0,reduceIte,a7]
 exact rfl
theorem qja {W:Nat→Bool}{h:Heap} (hW:∀ b,
  (geL h.length) b→W b=true) (a_0:List Int) (b_1:List Int) (r:Bool) (hF:qdo a_0 b_1=some r) : Ret E W 86 [lst cI a_0,
  lst cI b_1] h (fun v h'=>cut h.length h' E.sz false 9 v=some (.bool r)):=by
 refine Ret.of (fn:=x86) rfl (Run.of ?_)
 unfold qdo at hF
 have zf0:zj [lst cI a_0,lst cI b_1] 0=lst cI a_0:=rfl
 have zf1:zj [lst cI a_0,lst cI b_1] 1=lst cI b_1:=rfl
 generalize zj [lst cI a_0,lst cI b_1]=fr0 at zf0 zf1 ⊢
 have hS:Sep h (geL h.length) []:=a0t h
 simp only [x86,qh,qf,qg,qa,q6v,zf1,zx,qb,z1,B0,reduceIte,a7]
 obtain ⟨oc3,hX5,hk6⟩:=jo hF
 simp only [q5e]
 refine ku (σ:=Unit) b_1 (fun i1 x2 _=>qd2 a_0 i1 x2 ) (fun s fr' h'=>fr' 0=lst cI a_0∧fr' 7=lst cI b_1∧Sep h' (geL h.length) ([])) hX5 ⟨zf0,rfl,
   hS⟩ (by simp only [B0,reduceIte,a7]) (by simp only [B0,reduceIte,
   a7]) (fun _ _ _ h=>h) rfl rfl (fun _ _ _ _ h=>h) (fun _ _ _ _ h=>h) (fun _ _ _ _ h=>h) (by decide) ?_ ?_
 ·rintro i1 x2 _ fr15 h16 hx20 ⟨f18,f19,hS17⟩ f21 f22 oc4 hF7 hr8 Q9 hN10 hB14 hK11 hR12 hE13
  unfold qd2 at hF7
  simp only [q6m,qh,qf,f19,f21,jf,B0,reduceIte,a7]
  refine qi (v := .ref (cI x2) 0) (kt hx20 rfl) ?_
  simp only [qm,B0,reduceIte,a7]
  refine qi (v := .int .i64 x2) rfl ?_
  obtain ⟨v23,hx24,hF25⟩:=qk hF7
  simp only [qg,qa,q2a,qh,qf,f18,za,B0,reduceIte,a7]
  refine ja rfl (ql zn (ql qu zd)) (qc5 (fun b hb=>decide_eq_true hb) a_0 x2 v23 hx24) ?_
  simp only [je,qb,jt,qa,qz,B0,reduceIte,a7]
  refine qx (t:=(!v23)) (fun hc26=>?_) (fun hc26=>?_)
  ·rw [iteT hc26] at hF25
   simp only [qh,qf,qg,qa,q8,B0,reduceIte,a7]
   have e27:=qj hF25
   subst e27
   have ho28:=hr8 _ rfl
   have hk29:=hk6
   rw [ho28] at hk29
   dsimp only [jnO] at hk29
   apply hR12
   have he:=qj hk29
   subst he
   simp only [zg,B0,reduceIte,a7]
   exact rfl
  rw [iteF hc26] at hF25
  simp only [zf,qn,B0,reduceIte,a7]
  have e30:=qj hF25
  exact hN10 _ _ _ e30.symm ⟨f18,f19,hS17⟩ (f21) (f22)
 rintro _ fr32 h33 rfl ⟨f35,f36,hS34⟩
 dsimp only [jnO] at hk6
 unfold qit at hk6
 simp only [qh,qf,qg,qa,q8,B0,reduceIte,a7]
 have he:=qj hk6
 subst he
 simp only [zg,B0,reduceIte,a7]
 exact rfl
theorem qlm {W:Nat→Bool}{h:Heap} (hW:∀ b,
  (geL h.length) b→W b=true) (v_0:Control) (v_1:Partition) (r:Bool) (hF:qdf v_0 v_1=some r) : Ret E W 59 [.agg [lst qe v_0.Brokers,
  lst qd v_0.Parts,.int .i64 v_0.Next],.agg [lst cI v_1.Homes,lst cI v_1.InStep,.int .i64 v_1.Leader,.int .i64 v_1.Epoch,
  .int .i64 v_1.Stamp]] h (fun v h'=>cut h.length h' E.sz false 9 v=some (.bool r)):=by
 refine Ret.of (fn:=x59) rfl (Run.of ?_)
 unfold qdf at hF
 have zf0:zj [.agg [lst qe v_0.Brokers,lst qd v_0.Parts,.int .i64 v_0.Next],.agg [lst cI v_1.Homes,lst cI v_1.InStep,.int .i64 v_1.Leader,
   .int .i64 v_1.Epoch,.int .i64 v_1.Stamp]] 0 = .agg [lst qe v_0.Brokers,lst qd v_0.Parts,.int .i64 v_0.Next]:=rfl
 have zf1:zj [.agg [lst qe v_0.Brokers,lst qd v_0.Parts,.int .i64 v_0.Next],.agg [lst cI v_1.Homes,lst cI v_1.InStep,.int .i64 v_1.Leader,
   .int .i64 v_1.Epoch,.int .i64 v_1.Stamp]] 1 = .agg [lst cI v_1.Homes,lst cI v_1.InStep,.int .i64 v_1.Leader,.int .i64 v_1.Epoch,.int .i64 v_1.Stamp]:=rfl
 generalize zj [.agg [lst qe v_0.Brokers,lst qd v_0.Parts,.int .i64 v_0.Next],.agg [lst cI v_1.Homes,lst cI v_1.InStep,.int .i64 v_1.Leader,
   .int .i64 v_1.Epoch,.int .i64 v_1.Stamp]]=fr0 at zf0 zf1 ⊢
 have hS:Sep h (geL h.length) []:=a0t h
 simp only [x59,qh,qf,jp,zf0,B0,reduceIte,a7]
 refine jc (cs:=[lst qe v_0.Brokers,lst qd v_0.Parts,.int .i64 v_0.Next]) hS rfl rfl rfl (fun b1 h2 hS3=>?_)
 simp only [jp,zf1,B0,reduceIte,a7]
 refine jc (cs:=[lst cI v_1.Homes,lst cI v_1.InStep,.int .i64 v_1.Leader,.int .i64 v_1.Epoch,.int .i64 v_1.Stamp]) hS3 rfl rfl rfl (fun b5 h6 hS7=>?_)
 simp only [qg,qa,B0,reduceIte,a7]
 refine zq (Sep.m1 hS7) hW (by simp only [B0,reduceIte,a7]) (fun h9 hS10=>?_)
 refine zq hS10 hW (by simp only [B0,reduceIte,a7]) (fun h11 hS12=>?_)
 simp only [zp,qzz,qh,qf,qp,qb,a8,a9,b4,qs,qm,B0,reduceIte,a7]
 refine qi (v:=lst cI v_1.Homes) rfl ?_
 simp only [zx,qb,z1,qv,z8,qg,B0,reduceIte,a7]
 obtain ⟨v16,hx17,hF18⟩:=qk hF
 refine zr 8 (fun fr' h'=>Sep h' (geL h.length) ([])∧fr' 17 = .bool v16∧fr' 2 = .ref [lst qe v_0.Brokers,lst qd v_0.Parts,
   .int .i64 v_0.Next] 0∧fr' 3 = .ref [lst cI v_1.Homes,lst cI v_1.InStep,.int .i64 v_1.Leader,.int .i64 v_1.Epoch,.int .i64 v_1.Stamp] 0) (fun Q13 hN14=>?_) ?_
 ·simp only [d7,e9]
  simp only [qc (g:=9),B0,reduceIte,a7]
  refine qy (t:=(decide ((b6 v_1.Homes:Int)=0))) (fun hg15=>?_) (fun hg15=>?_)
  ·rw [iteT hg15] at hx17
   simp only [hg15,qc (g:=9),zv,qr,qb,zh,qa,qn,B0,reduceIte,a7]
   have e19:=qj hx17
   exact hN14 _ _ ⟨hS12,by rw [←e19]; simp only [B0,reduceIte,a7],rfl,rfl⟩
  ·rw [iteF hg15] at hx17
   simp only [hg15,qc (g:=9),qq,qp,qb,a8,a9,b4,qs,qm,B0,reduceIte,a7]
   refine qi (v:=lst cI v_1.Homes) rfl ?_
   simp only [hg15,qc (g:=9),qq,qp,qb,a8,a9,b4,qs,qm,B0,reduceIte,a7]
   refine qi (v:=lst qe v_0.Brokers) rfl ?_
   obtain ⟨v20,hx21,hF22⟩:=qk hx17
   simp only [hg15,qc (g:=9),qq,zx,qb,z1,za,B0,reduceIte,a7]
   refine ja rfl (ql zn (ql qu zd)) (qdm (fun b hb=>decide_eq_true hb) v_1.Homes (b6 v_0.Brokers:Int) v20 hx21) ?_
   simp only [hg15,qc (g:=9),qq,je,qb,jt,qr,zi,qa,qn,B0,reduceIte,a7]
   have e23:=qj hF22
   exact hN14 _ _ ⟨hS12,by rw [←e23]; simp only [B0,reduceIte,a7],rfl,rfl⟩
 rintro fr24 h28 ⟨hS29,f25,f26,f27⟩
 simp only [b7,e8]
 simp only [f25,qg,B0,reduceIte,a7]
 refine zr 5 (fun fr' h'=>Sep h' (geL h.length) ([])∧fr' 23 = .bool (v16||(decide ((b6 v_1.InStep:Int)=0)))∧fr' 2 = .ref [lst qe v_0.Brokers,
   lst qd v_0.Parts,.int .i64 v_0.Next] 0∧fr' 3 = .ref [lst cI v_1.Homes,lst cI v_1.InStep,.int .i64 v_1.Leader,.int .i64 v_1.Epoch,
   .int .i64 v_1.Stamp] 0) (fun Q30 hN31=>?_) ?_
 ·simp only [d7,e9]
  simp only [qc (g:=18),B0,reduceIte,a7]
  refine qy (t:=v16) (fun hg32=>?_) (fun hg32=>?_)
  ·simp only [hg32,qc (g:=18),zv,qr,qb,zh,qa,qn,B0,reduceIte,a7]
   exact hN31 _ _ ⟨hS29,by rw [orT hg32]; simp only [B0,reduceIte,a7],f26,f27⟩
  ·simp only [hg32,qc (g:=18),qq,f27,qp,qb,a8,a9,b4,qs,qm,B0,reduceIte,a7]
   refine qi (v:=lst cI v_1.InStep) rfl ?_
   simp only [hg32,qc (g:=18),qq,zx,qb,z1,qv,z8,qr,zi,qa,qn,B0,reduceIte,a7]
   exact hN31 _ _ ⟨hS29,by rw [orF hg32]; simp only [B0,reduceIte,a7],f26,f27⟩
 rintro fr33 h37 ⟨hS38,f34,f35,f36⟩
 simp only [b7,e8]
 simp only [f34,qg,B0,reduceIte,a7]
 obtain ⟨v42,hx43,hF44⟩:=qk hF18
 refine zr 8 (fun fr' h'=>Sep h' (geL h.length) ([])∧fr' 32 = .bool v42∧fr' 2 = .ref [lst qe v_0.Brokers,lst qd v_0.Parts,
   .int .i64 v_0.Next] 0∧fr' 3 = .ref [lst cI v_1.Homes,lst cI v_1.InStep,.int .i64 v_1.Leader,.int .i64 v_1.Epoch,.int .i64 v_1.Stamp] 0) (fun Q39 hN40=>?_) ?_
 ·simp only [d7,e9]
  simp only [qc (g:=24),B0,reduceIte,a7]
  refine qy (t:=(v16||(decide ((b6 v_1.InStep:Int)=0)))) (fun hg41=>?_) (fun hg41=>?_)
  ·rw [iteT hg41] at hx43
   simp only [hg41,qc (g:=24),zv,qr,qb,zh,qa,qn,B0,reduceIte,a7]
   have e45:=qj hx43
   exact hN40 _ _ ⟨hS38,by rw [←e45]; simp only [B0,reduceIte,a7],f35,f36⟩
  ·rw [iteF hg41] at hx43
   simp only [hg41,qc (g:=24),qq,f36,qp,qb,a8,a9,b4,qs,qm,B0,reduceIte,a7]
   refine qi (v:=lst cI v_1.InStep) rfl ?_
   simp only [hg41,qc (g:=24),qq,f35,qp,qb,a8,a9,b4,qs,qm,B0,reduceIte,a7]
   refine qi (v:=lst qe v_0.Brokers) rfl ?_
   obtain ⟨v46,hx47,hF48⟩:=qk hx43
   simp only [hg41,qc (g:=24),qq,zx,qb,z1,za,B0,reduceIte,a7]
   refine ja rfl (ql zn (ql qu zd)) (qdm (fun b hb=>decide_eq_true hb) v_1.InStep (b6 v_0.Brokers:Int) v46 hx47) ?_
   simp only [hg41,qc (g:=24),qq,je,qb,jt,qr,zi,qa,qn,B0,reduceIte,a7]
   have e49:=qj hF48
   exact hN40 _ _ ⟨hS38,by rw [←e49]; simp only [B0,reduceIte,a7],f35,f36⟩
 rintro fr50 h54 ⟨hS55,f51,f52,f53⟩
 simp only [b7,e8]
 simp only [f51,qg,B0,reduceIte,a7]
 obtain ⟨v59,hx60,hF61⟩:=qk hF44
 refine zr 7 (fun fr' h'=>Sep h' (geL h.length) ([])∧fr' 40 = .bool v59∧fr' 2 = .ref [lst qe v_0.Brokers,lst qd v_0.Parts,
   .int .i64 v_0.Next] 0∧fr' 3 = .ref [lst cI v_1.Homes,lst cI v_1.InStep,.int .i64 v_1.Leader,.int .i64 v_1.Epoch,.int .i64 v_1.Stamp] 0) (fun Q56 hN57=>?_) ?_
 ·simp only [d7,e9]
  simp only [qc (g:=33),B0,reduceIte,a7]
  refine qy (t:=v42) (fun hg58=>?_) (fun hg58=>?_)
  ·rw [iteT hg58] at hx60
   simp only [hg58,qc (g:=33),zv,qr,qb,zh,qa,qn,B0,reduceIte,a7]
   have e62:=qj hx60
   exact hN57 _ _ ⟨hS55,by rw [←e62]; simp only [B0,reduceIte,a7],f52,f53⟩
  ·rw [iteF hg58] at hx60
   simp only [hg58,qc (g:=33),qq,f53,qp,qb,a8,a9,b4,qs,qm,B0,reduceIte,a7]
   refine qi (v:=lst cI v_1.Homes) rfl ?_
   simp only [hg58,qc (g:=33),qq,f53,qp,qb,a8,a9,b4,qs,qm,B0,reduceIte,a7]
   refine qi (v:=lst cI v_1.InStep) rfl ?_
   obtain ⟨v63,hx64,hF65⟩:=qk hx60
   simp only [hg58,qc (g:=33),qq,za,B0,reduceIte,a7]
   refine ja rfl (ql zn (ql zn zd)) (qja (fun b hb=>decide_eq_true hb) v_1.Homes v_1.InStep v63 hx64) ?_
   simp only [hg58,qc (g:=33),qq,je,qb,jt,qr,zi,qa,qn,B0,reduceIte,a7]
   have e66:=qj hF65
   exact hN57 _ _ ⟨hS55,by rw [←e66]; simp only [B0,reduceIte,a7],f52,f53⟩
 rintro fr67 h71 ⟨hS72,f68,f69,f70⟩
 simp only [b7,e8]
 simp only [qa,f68,qz,B0,reduceIte,a7]
 refine qx (t:=v59) (fun hc73=>?_) (fun hc73=>?_)
 ·rw [iteT hc73] at hF61
  simp only [qh,qf,qg,qa,q8,B0,reduceIte,a7]
  have he:=qj hF61
  subst he
  simp only [zg,B0,reduceIte,a7]
  exact rfl
 rw [iteF hc73] at hF61
 simp only [zf,qy2,qh,qf,f70,qp,qb,a8,a9,b4,qs,qm,B0,reduceIte,a7]
 refine qi (v := .int .i64 v_1.Leader) rfl ?_
 simp only [qv,qb,z8,qg,B0,reduceIte,a7]
 obtain ⟨v77,hx78,hF79⟩:=qk hF61
 refine zr 6 (fun fr' h'=>Sep h' (geL h.length) ([])∧fr' 50 = .bool v77∧fr' 2 = .ref [lst qe v_0.Brokers,lst qd v_0.Parts,
   .int .i64 v_0.Next] 0∧fr' 3 = .ref [lst cI v_1.Homes,lst cI v_1.InStep,.int .i64 v_1.Leader,.int .i64 v_1.Epoch,.int .i64 v_1.Stamp] 0) (fun Q74 hN75=>?_) ?_
 ·simp only [d7,e9]
  simp only [qc (g:=44),B0,reduceIte,a7]
  refine qy (t:=(decide (v_1.Leader=(-1)))) (fun hg76=>?_) (fun hg76=>?_)
  ·rw [iteT hg76] at hx78
   simp only [hg76,qc (g:=44),qw,f69,qm,B0,reduceIte,a7]
   refine qi (v := .agg [lst qe v_0.Brokers,lst qd v_0.Parts,.int .i64 v_0.Next]) rfl ?_
   simp only [hg76,qc (g:=44),qw,f70,qp,qb,a8,a9,b4,qs,qm,B0,reduceIte,a7]
   refine qi (v:=lst cI v_1.InStep) rfl ?_
   obtain ⟨v80,hx81,hF82⟩:=qk hx78
   simp only [hg76,qc (g:=44),qw,za,B0,reduceIte,a7]
   refine ja rfl (ql (z4 (ql zn (ql zn (ql qu zd)))) (ql zn zd)) (qhn
     (fun b hb=>decide_eq_true hb) v_0 v_1.InStep v80 hx81) ?_
   simp only [hg76,qc (g:=44),qw,qv,qb,qcg,qr,zh,qa,qn,B0,reduceIte,a7]
   have e83:=qj hF82
   exact hN75 _ _ ⟨hS72,by rw [←e83]; simp only [B0,reduceIte,a7],f69,f70⟩
  ·rw [iteF hg76] at hx78
   simp only [hg76,qc (g:=44),zy,qr,qb,zi,qa,qn,B0,reduceIte,a7]
   have e84:=qj hx78
   exact hN75 _ _ ⟨hS72,by rw [←e84]; simp only [B0,reduceIte,a7],f69,f70⟩
 rintro fr85 h89 ⟨hS90,f86,f87,f88⟩
 simp only [b7,e8]
 simp only [f86,qg,B0,reduceIte,a7]
 obtain ⟨v94,hx95,hF96⟩:=qk hF79
 refine zr 21 (fun fr' h'=>Sep h' (geL h.length) ([])∧fr' 72 = .bool v94∧fr' 3 = .ref [lst cI v_1.Homes,lst cI v_1.InStep,.int .i64 v_1.Leader,.int .i64 v_1.Epoch,
   .int .i64 v_1.Stamp] 0) (fun Q91 hN92=>?_) ?_
 ·simp only [d7,e9]
  simp only [qc (g:=51),B0,reduceIte,a7]
  refine qy (t:=v77) (fun hg93=>?_) (fun hg93=>?_)
  ·rw [iteT hg93] at hx95
   simp only [hg93,qc (g:=51),zv,qc (g:=55),u4,qc (g:=62),qr,qb,zh,qa,qn,B0,reduceIte,
     a7]
   have e97:=qj hx95
   exact hN92 _ _ ⟨hS90,by rw [←e97]; simp only [B0,reduceIte,a7],f88⟩
  ·rw [iteF hg93] at hx95
   simp only [hg93,qc (g:=51),qq,f88,qp,qb,a8,a9,b4,qs,qm,B0,reduceIte,a7]
   refine qi (v := .int .i64 v_1.Leader) rfl ?_
   simp only [hg93,qc (g:=51),qq,qv,qb,wm,qg,B0,reduceIte,a7]
   obtain ⟨v101,hx102,hF103⟩:=qk hx95
   refine zr 16 (fun fr' h'=>Sep h' (geL h.length) ([])∧fr' 71 = .bool v101∧fr' 3 = .ref [lst cI v_1.Homes,lst cI v_1.InStep,.int .i64 v_1.Leader,
     .int .i64 v_1.Epoch,.int .i64 v_1.Stamp] 0∧fr' 51 = .bool v77) (fun Q98 hN99=>?_) ?_
   ·simp only [d7,e9]
    simp only [qc (g:=55),B0,reduceIte,a7]
    refine qy (t:=(decide (v_1.Leader≠(-1)))) (fun hg100=>?_) (fun hg100=>?_)
    ·rw [iteT hg100] at hx102
     simp only [hg100,qc (g:=55),qw,f88,qp,qb,a8,a9,b4,qs,qm,B0,reduceIte,a7]
     refine qi (v:=lst cI v_1.InStep) rfl ?_
     simp only [hg100,qc (g:=55),qw,f88,qp,qb,a8,a9,b4,qs,qm,B0,reduceIte,a7]
     refine qi (v := .int .i64 v_1.Leader) rfl ?_
     obtain ⟨v104,hx105,hF106⟩:=qk hx102
     simp only [hg100,qc (g:=55),qw,za,B0,reduceIte,a7]
     refine ja rfl (ql zn (ql qu zd)) (qc5 (fun b hb=>decide_eq_true hb) v_1.InStep v_1.Leader v104 hx105) ?_
     simp only [hg100,qc (g:=55),qw,je,qb,jt,qg,B0,reduceIte,a7]
     obtain ⟨v110,hx111,hF112⟩:=qk hF106
     refine zr 8 (fun fr' h'=>Sep h' (geL h.length) ([])∧fr' 70 = .bool v110∧fr' 3 = .ref [lst cI v_1.Homes,lst cI v_1.InStep,.int .i64 v_1.Leader,
       .int .i64 v_1.Epoch,.int .i64 v_1.Stamp] 0∧fr' 51 = .bool v77∧fr' 55 = .bool (decide (v_1.Leader≠(-1)))) (fun Q107 hN108=>?_) ?_
     ·simp only [d7,e9]
      simp only [qc (g:=62),B0,reduceIte,a7]
      refine qy (t:=(!v104)) (fun hg109=>?_) (fun hg109=>?_)
      ·rw [iteT hg109] at hx111
       simp only [hg109,qc (g:=62),zv,hg100,qc (g:=55),qw,qr,qb,zh,qa,qn,B0,reduceIte,
         a7]
       have e113:=qj hx111
       exact hN108 _ _ ⟨hS90,by rw [←e113]; simp only [B0,reduceIte,a7],f88,by simp only [hg93,B0,reduceIte,a7],by simp only [hg100,B0,
         reduceIte,a7]⟩
      ·rw [iteF hg109] at hx111
       simp only [hg109,qc (g:=62),qq,f87,qp,qb,a8,a9,b4,qs,qm,B0,reduceIte,a7]
       refine qi (v:=lst qe v_0.Brokers) rfl ?_
       simp only [hg109,qc (g:=62),qq,f88,qp,qb,a8,a9,b4,qs,qm,B0,reduceIte,a7]
       refine qi (v := .int .i64 v_1.Leader) rfl ?_
       obtain ⟨x114,hx115,hF116⟩:=qk hx111
       simp only [hg109,qc (g:=62),qq,jf,B0,reduceIte,a7]
       refine qi (v := .ref (qe x114) 0) (uw hx115 rfl) ?_
       simp only [hg109,qc (g:=62),qq,qp,qb,a8,a9,b4,qs,qm,B0,reduceIte,a7]
       refine qi (v := .bool x114.Fenced) rfl ?_
       simp only [hg100,qc (g:=55),qw,hg109,qr,qb,zi,qa,qn,B0,reduceIte,a7]
       have e117:=qj hF116
       exact hN108 _ _ ⟨hS90,by rw [←e117]; simp only [B0,reduceIte,a7],f88,by simp only [hg93,B0,reduceIte,a7],by simp only [hg100,B0,
         reduceIte,a7]⟩
     rintro fr118 h123 ⟨hS124,f119,f120,f121,f122⟩
     simp only [b7,e8]
     simp only [f121,hg93,qc (g:=51),qq,f122,hg100,qr,qb,zh,f119,qa,qn,B0,reduceIte,a7]
     have e125:=qj hF112
     exact hN99 _ _ ⟨hS124,by rw [←e125]; simp only [B0,reduceIte,a7],f120,by simp only [f121,hg93,B0,reduceIte,a7]⟩
    ·rw [iteF hg100] at hx102
     simp only [hg100,qc (g:=55),zy,qc (g:=62),u4,hg93,qc (g:=51),qq,qr,qb,zi,qa,
       qn,B0,reduceIte,a7]
     have e126:=qj hx102
     exact hN99 _ _ ⟨hS90,by rw [←e126]; simp only [B0,reduceIte,a7],f88,by simp only [hg93,B0,reduceIte,a7]⟩
   rintro fr127 h131 ⟨hS132,f128,f129,f130⟩
   simp only [b7,e8]
   simp only [f130,hg93,qr,qb,zi,f128,qa,qn,B0,reduceIte,a7]
   have e133:=qj hF103
   exact hN92 _ _ ⟨hS132,by rw [←e133]; simp only [B0,reduceIte,a7],f129⟩
 rintro fr134 h137 ⟨hS138,f135,f136⟩
 simp only [b7,e8]
 simp only [qa,f135,qz,B0,reduceIte,a7]
 refine qx (t:=v94) (fun hc139=>?_) (fun hc139=>?_)
 ·rw [iteT hc139] at hF96
  simp only [qh,qf,qg,qa,q8,B0,reduceIte,a7]
  have he:=qj hF96
  subst he
  simp only [zg,B0,reduceIte,a7]
  exact rfl
 rw [iteF hc139] at hF96
 simp only [zf,q3u,qh,qf,f136,qp,qb,a8,a9,b4,qs,qm,B0,reduceIte,a7]
 refine qi (v := .int .i64 v_1.Epoch) rfl ?_
 simp only [za,B0,reduceIte,a7]
 refine ja rfl (ql qu (ql qu (ql qu zd))) (w5 (fun b hb=>decide_eq_true hb) v_1.Epoch 0 1000 _ rfl) ?_
 simp only [qg,B0,reduceIte,a7]
 refine zr 4 (fun fr' h'=>Sep h' (geL h.length) ([])∧fr' 80 = .bool ((zu v_1.Epoch 0 1000)&&(zu v_1.Stamp 0 1000))) (fun Q140 hN141=>?_) ?_
 ·simp only [d7,e9]
  simp only [qc (g:=76),B0,reduceIte,a7]
  refine qy (t:=(zu v_1.Epoch 0 1000)) (fun hg142=>?_) (fun hg142=>?_)
  ·simp only [hg142,qc (g:=76),qw,f136,qp,qb,a8,a9,b4,qs,qm,B0,reduceIte,a7]
   refine qi (v := .int .i64 v_1.Stamp) rfl ?_
   simp only [hg142,qc (g:=76),qw,za,B0,reduceIte,a7]
   refine ja rfl (ql qu (ql qu (ql qu zd))) (w5 (fun b hb=>decide_eq_true hb) v_1.Stamp 0 1000 _ rfl) ?_
   simp only [hg142,qr,qb,zh,qa,qn,B0,reduceIte,a7]
   exact hN141 _ _ ⟨hS138,by rw [k8 hg142]; simp only [B0,reduceIte,a7]⟩
  ·simp only [hg142,qc (g:=76),zy,qr,qb,zi,qa,qn,B0,reduceIte,a7]
   exact hN141 _ _ ⟨hS138,by rw [k9 hg142]; simp only [B0,reduceIte,a7]⟩
 rintro fr143 h145 ⟨hS146,f144⟩
 simp only [b7,e8]
 simp only [f144,qg,qa,q8,B0,reduceIte,a7]
 have he:=qj hF96
 subst he
 simp only [zg,B0,reduceIte,a7]
 exact rfl
end Go.Proofs.Ytjloihcijdcpeaa.X
namespace Go.Proofs.Ytjloihcijdcpeaa.X
open Go
theorem xl {W:Nat→Bool}{h:Heap} (hW:∀ b,
  (geL h.length) b→W b=true) (v_0:Control) (r:Bool) (hF:yb v_0=some r) : Ret E W 20 [.agg [lst qe v_0.Brokers,lst qd v_0.Parts,
  .int .i64 v_0.Next]] h (fun v h'=>cut h.length h' E.sz false 9 v=some (.bool r)):=by
 refine Ret.of (fn:=x20) rfl (Run.of ?_)
 unfold yb at hF
 have zf0:zj [.agg [lst qe v_0.Brokers,lst qd v_0.Parts,.int .i64 v_0.Next]] 0 = .agg [lst qe v_0.Brokers,lst qd v_0.Parts,
   .int .i64 v_0.Next]:=rfl
 generalize zj [.agg [lst qe v_0.Brokers,lst qd v_0.Parts,.int .i64 v_0.Next]]=fr0 at zf0 ⊢
 have hS:Sep h (geL h.length) []:=a0t h
 simp only [x20,qh,qf,jp,zf0,B0,reduceIte,a7]
 refine jc (cs:=[lst qe v_0.Brokers,lst qd v_0.Parts,.int .i64 v_0.Next]) hS rfl rfl rfl (fun b1 h2 hS3=>?_)
 simp only [qg,qa,B0,reduceIte,a7]
 refine zq hS3 hW (by simp only [B0,reduceIte,a7]) (fun h5 hS6=>?_)
 simp only [zp,qwb,qh,qf,qp,qb,a8,a9,b4,qs,qm,B0,reduceIte,a7]
 refine qi (v:=lst qe v_0.Brokers) rfl ?_
 simp only [zx,qb,z1,qg,qa,B0,reduceIte,a7]
 obtain ⟨oc9,hX11,hk12⟩:=jo hF
 simp only [q15]
 refine ku (σ:=Unit) v_0.Brokers (fun i7 x8 _=>um v_0 i7 x8 ) (fun s fr' h'=>fr' 1 = .ref [lst qe v_0.Brokers,
   lst qd v_0.Parts,.int .i64 v_0.Next] 0∧fr' 8=lst qe v_0.Brokers∧Sep h' (geL h.length) ([])) hX11 ⟨rfl,rfl,hS6⟩ (by simp only [B0,reduceIte,
   a7]) (by simp only [B0,reduceIte,a7]) (fun _ _ _ h=>h) rfl rfl (fun _ _ _ _ h=>h) (fun _ _ _ _ h=>h) (fun _ _ _ _ h=>h) (by decide) ?_ ?_
 ·rintro i7 x8 _ fr21 h22 hx26 ⟨f24,f25,hS23⟩ f27 f28 oc10 hF13 hr14 Q15 hN16 hB20 hK17 hR18 hE19
  unfold um at hF13
  simp only [q4j,qh,qf,f25,f27,jf,B0,reduceIte,a7]
  refine qi (v := .ref (qe x8) 0) (kt hx26 rfl) ?_
  simp only [qm,B0,reduceIte,a7]
  refine qi (v := .agg [.int .i64 x8.Epoch,.int .i64 x8.Left,.bool x8.Fenced]) rfl ?_
  simp only [z5,B0,reduceIte,a7]
  refine zt hS23 (fun b29 h30 hS31=>?_)
  simp only [zk,B0,reduceIte,a7]
  refine zb (us:=[.int .i64 x8.Epoch,.int .i64 x8.Left,.bool x8.Fenced]) rfl (cs':=[.int .i64 x8.Epoch,.int .i64 x8.Left,
    .bool x8.Fenced]) hS31 hW rfl rfl (nle rfl) rfl (fun h33 hS34=>?_)
  simp only [qa,B0,reduceIte,a7]
  refine zq hS34 hW (by simp only [B0,reduceIte,a7]) (fun h35 hS36=>?_)
  simp only [zp,q2i,qh,qf,qp,qb,a8,a9,b4,qs,qm,B0,reduceIte,a7]
  refine qi (v := .int .i64 x8.Epoch) rfl ?_
  simp only [qv,qb,qfi,qg,B0,reduceIte,a7]
  refine zr 6 (fun fr' h'=>Sep h' (geL h.length) ([])∧fr' 23 = .bool ((decide (x8.Epoch<0))||(decide
    (v_0.Next≤x8.Epoch)))∧fr' 1 = .ref [lst qe v_0.Brokers,lst qd v_0.Parts,.int .i64 v_0.Next] 0∧fr' 4 = .ref [.int .i64 x8.Epoch,
    .int .i64 x8.Left,.bool x8.Fenced] 0∧fr' 8=lst qe v_0.Brokers∧fr' 9 = .int .i64 (b6 v_0.Brokers:Int)∧fr' 10 = .int .i64 (i7:Int))
    (fun Q37 hN38=>?_) ?_
  ·simp only [d7,e9]
   simp only [qc (g:=17),B0,reduceIte,a7]
   refine qy (t:=(decide (x8.Epoch<0))) (fun hg39=>?_) (fun hg39=>?_)
   ·simp only [hg39,qc (g:=17),zv,qr,qb,zh,qa,qn,B0,reduceIte,a7]
    exact hN38 _ _ ⟨hS36,by rw [orT hg39]; simp only [B0,reduceIte,a7],f24,rfl,f25,f28,f27⟩
   ·simp only [hg39,qc (g:=17),qq,qp,qb,a8,a9,b4,qs,qm,B0,reduceIte,a7]
    refine qi (v := .int .i64 x8.Epoch) rfl ?_
    simp only [hg39,qc (g:=17),qq,f24,qp,qb,a8,a9,b4,qs,qm,B0,reduceIte,a7]
    refine qi (v := .int .i64 v_0.Next) rfl ?_
    simp only [hg39,qc (g:=17),qq,qv,qb,qcg,qr,zi,qa,qn,B0,reduceIte,a7]
    exact hN38 _ _ ⟨hS36,by rw [orF hg39]; simp only [B0,reduceIte,a7],f24,rfl,f25,f28,f27⟩
  rintro fr40 h47 ⟨hS48,f41,f42,f43,f44,f45,f46⟩
  simp only [b7,e8]
  simp only [f41,qg,B0,reduceIte,a7]
  refine zr 5 (fun fr' h'=>Sep h' (geL h.length) ([])∧fr' 29 = .bool (((decide (x8.Epoch<0))||(decide (v_0.Next≤x8.Epoch))) ||
    (!(zu x8.Left 0 9)))∧fr' 1 = .ref [lst qe v_0.Brokers,lst qd v_0.Parts,.int .i64 v_0.Next] 0∧fr' 4 = .ref [.int .i64 x8.Epoch,
    .int .i64 x8.Left,.bool x8.Fenced] 0∧fr' 8=lst qe v_0.Brokers∧fr' 9 = .int .i64 (b6 v_0.Brokers:Int)∧fr' 10 = .int .i64 (i7:Int))
    (fun Q49 hN50=>?_) ?_
  ·simp only [d7,e9]
   simp only [qc (g:=24),B0,reduceIte,a7]
   refine qy (t:=((decide (x8.Epoch<0))||(decide (v_0.Next≤x8.Epoch)))) (fun hg51=>?_) (fun hg51=>?_)
   ·simp only [hg51,qc (g:=24),zv,qr,qb,zh,qa,qn,B0,reduceIte,a7]
    exact hN50 _ _ ⟨hS48,by rw [orT hg51]; simp only [B0,reduceIte,a7],f42,f43,f44,f45,f46⟩
   ·simp only [hg51,qc (g:=24),qq,f43,qp,qb,a8,a9,b4,qs,qm,B0,reduceIte,a7]
    refine qi (v := .int .i64 x8.Left) rfl ?_
    simp only [hg51,qc (g:=24),qq,za,B0,reduceIte,a7]
    refine ja rfl (ql qu (ql qu (ql qu zd))) (w5 (fun b hb=>decide_eq_true hb) x8.Left 0 9 _ rfl) ?_
    simp only [hg51,qc (g:=24),qq,je,qb,jt,qr,zi,qa,qn,B0,reduceIte,a7]
    exact hN50 _ _ ⟨hS48,by rw [orF hg51]; simp only [B0,reduceIte,a7],f42,f43,f44,f45,f46⟩
  rintro fr52 h59 ⟨hS60,f53,f54,f55,f56,f57,f58⟩
  simp only [b7,e8]
  simp only [f53,qg,B0,reduceIte,a7]
  refine zr 7 (fun fr' h'=>Sep h' (geL h.length) ([])∧fr' 37 = .bool ((((decide (x8.Epoch<0))||(decide (v_0.Next≤x8.Epoch)))||(!(zu x8.Left 0 9))) ||
    (!(x8.Fenced == (decide (x8.Left=0)))))∧fr' 1 = .ref [lst qe v_0.Brokers,lst qd v_0.Parts,
    .int .i64 v_0.Next] 0∧fr' 4 = .ref [.int .i64 x8.Epoch,.int .i64 x8.Left,
    .bool x8.Fenced] 0∧fr' 8=lst qe v_0.Brokers∧fr' 9 = .int .i64 (b6 v_0.Brokers:Int)∧fr' 10 = .int .i64 (i7:Int)) (fun Q61 hN62=>?_) ?_
  ·simp only [d7,e9]
   simp only [qc (g:=30),B0,reduceIte,a7]
   refine qy (t:=(((decide (x8.Epoch<0))||(decide (v_0.Next≤x8.Epoch)))||(!(zu x8.Left 0 9)))) (fun hg63=>?_) (fun hg63=>?_)
   ·simp only [hg63,qc (g:=30),zv,qr,qb,zh,qa,qn,B0,reduceIte,a7]
    exact hN62 _ _ ⟨hS60,by rw [orT hg63]; simp only [B0,reduceIte,a7],f54,f55,f56,f57,f58⟩
   ·simp only [hg63,qc (g:=30),qq,f55,qp,qb,a8,a9,b4,qs,qm,B0,reduceIte,a7]
    refine qi (v := .bool x8.Fenced) rfl ?_
    simp only [hg63,qc (g:=30),qq,f55,qp,qb,a8,a9,b4,qs,qm,B0,reduceIte,a7]
    refine qi (v := .int .i64 x8.Left) rfl ?_
    simp only [hg63,qc (g:=30),qq,qv,qb,z8,qgw,qkp,qr,zi,qa,qn,B0,reduceIte,a7]
    exact hN62 _ _ ⟨hS60,by rw [orF hg63]; simp only [B0,reduceIte,a7],f54,f55,f56,f57,f58⟩
  rintro fr64 h71 ⟨hS72,f65,f66,f67,f68,f69,f70⟩
  simp only [b7,e8]
  simp only [f65,qg,B0,reduceIte,a7]
  refine zr 9 (fun fr' h'=>Sep h' (geL h.length) ([])∧fr' 47 = .bool (((((decide (x8.Epoch<0))||(decide (v_0.Next≤x8.Epoch)))||(!(zu x8.Left 0 9))) ||
    (!(x8.Fenced == (decide (x8.Left=0)))))||((decide (x8.Epoch=0))&&(decide ((0:Int)<x8.Left))))∧fr' 1 = .ref [lst qe v_0.Brokers,
    lst qd v_0.Parts,.int .i64 v_0.Next] 0∧fr' 8=lst qe v_0.Brokers∧fr' 9 = .int .i64 (b6 v_0.Brokers:Int)∧fr' 10 = .int .i64
    (i7:Int)) (fun Q73 hN74=>?_) ?_
  ·simp only [d7,e9]
   simp only [qc (g:=38),B0,reduceIte,a7]
   refine qy (t:=((((decide (x8.Epoch<0))||(decide (v_0.Next≤x8.Epoch)))||(!(zu x8.Left 0 9)))||(!(x8.Fenced == (decide (x8.Left=0))))))
     (fun hg75=>?_) (fun hg75=>?_)
   ·simp only [hg75,qc (g:=38),zv,qc (g:=42),u4,qr,qb,zh,qa,qn,B0,reduceIte,a7]
    exact hN74 _ _ ⟨hS72,by rw [orT hg75]; simp only [B0,reduceIte,a7],f66,f68,f69,f70⟩
   ·simp only [hg75,qc (g:=38),qq,f67,qp,qb,a8,a9,b4,qs,qm,B0,reduceIte,a7]
    refine qi (v := .int .i64 x8.Epoch) rfl ?_
    simp only [hg75,qc (g:=38),qq,qv,qb,z8,qg,B0,reduceIte,a7]
    refine zr 4 (fun fr' h'=>Sep h' (geL h.length) ([])∧fr' 46 = .bool ((decide (x8.Epoch=0))&&(decide
      ((0:Int)<x8.Left)))∧fr' 1 = .ref [lst qe v_0.Brokers,lst qd v_0.Parts,
      .int .i64 v_0.Next] 0∧fr' 8=lst qe v_0.Brokers∧fr' 9 = .int .i64 (b6 v_0.Brokers:Int)∧fr' 10 = .int .i64 (i7:Int)∧fr' 38 = .bool
      ((((decide (x8.Epoch<0))||(decide (v_0.Next≤x8.Epoch)))||(!(zu x8.Left 0 9)))||(!(x8.Fenced == (decide (x8.Left=0)))))) (fun Q76 hN77=>?_) ?_
    ·simp only [d7,e9]
     simp only [qc (g:=42),B0,reduceIte,a7]
     refine qy (t:=(decide (x8.Epoch=0))) (fun hg78=>?_) (fun hg78=>?_)
     ·simp only [hg78,qc (g:=42),qw,f67,qp,qb,a8,a9,b4,qs,qm,B0,reduceIte,a7]
      refine qi (v := .int .i64 x8.Left) rfl ?_
      simp only [hg78,qc (g:=42),qw,qv,qb,qc7,hg75,qc (g:=38),qq,qr,zh,qa,qn,B0,
        reduceIte,a7]
      exact hN77 _ _ ⟨hS72,by rw [k8 hg78]; simp only [B0,reduceIte,a7],f66,f68,f69,f70,by simp only [hg75,B0,reduceIte,a7]⟩
     ·simp only [hg78,qc (g:=42),zy,hg75,qc (g:=38),qq,qr,qb,zi,qa,qn,B0,reduceIte,
       a7]
      exact hN77 _ _ ⟨hS72,by rw [k9 hg78]; simp only [B0,reduceIte,a7],f66,f68,f69,f70,by simp only [hg75,B0,reduceIte,a7]⟩
    rintro fr79 h86 ⟨hS87,f80,f81,f82,f83,f84,f85⟩
    simp only [b7,e8]
    simp only [f85,hg75,qr,qb,zi,f80,qa,qn,B0,reduceIte,a7]
    exact hN74 _ _ ⟨hS87,by rw [orF hg75]; simp only [B0,reduceIte,a7],f81,f82,f83,f84⟩
  rintro fr88 h94 ⟨hS95,f89,f90,f91,f92,f93⟩
  simp only [b7,e8]
  simp only [qa,f89,qz,B0,reduceIte,a7]
  refine qx (t:=(((((decide (x8.Epoch<0))||(decide (v_0.Next≤x8.Epoch)))||(!(zu x8.Left 0 9)))||(!(x8.Fenced == (decide (x8.Left=0)))))||((decide
    (x8.Epoch=0))&&(decide ((0:Int)<x8.Left))))) (fun hc96=>?_) (fun hc96=>?_)
  ·rw [iteT hc96] at hF13
   simp only [qh,qf,qg,qa,q8,B0,reduceIte,a7]
   have e97:=qj hF13
   subst e97
   have ho98:=hr14 _ rfl
   have hk99:=hk12
   rw [ho98] at hk99
   dsimp only [jnO] at hk99
   apply hR18
   have he:=qj hk99
   subst he
   simp only [zg,B0,reduceIte,a7]
   exact rfl
  rw [iteF hc96] at hF13
  simp only [zf,qn,B0,reduceIte,a7]
  have e100:=qj hF13
  exact hN16 _ _ _ e100.symm ⟨f90,f91,hS95⟩ (f93) (f92)
 rintro _ fr102 h103 rfl ⟨f105,f106,hS104⟩
 dsimp only [jnO] at hk12
 unfold qcy at hk12
 simp only [qqn,qh,qf,f105,qp,qb,a8,a9,b4,qs,qm,B0,reduceIte,a7]
 refine qi (v:=lst qe v_0.Brokers) rfl ?_
 simp only [zx,qb,z1,za,B0,reduceIte,a7]
 refine ja rfl (ql qu (ql qu (ql qu zd))) (w5 (fun b hb=>decide_eq_true hb) (b6 v_0.Brokers:Int) 1 6 _ rfl) ?_
 simp only [je,qb,jt,qg,B0,reduceIte,a7]
 refine zr 5 (fun fr' h'=>Sep h' (geL h.length) ([])∧fr' 59 = .bool ((!(zu (b6 v_0.Brokers:Int) 1 6))||(decide ((5:Int) <
   (b6 v_0.Parts:Int))))∧fr' 1 = .ref [lst qe v_0.Brokers,lst qd v_0.Parts,.int .i64 v_0.Next] 0) (fun Q107 hN108=>?_) ?_
 ·simp only [d7,e9]
  simp only [qc (g:=54),B0,reduceIte,a7]
  refine qy (t:=(!(zu (b6 v_0.Brokers:Int) 1 6))) (fun hg109=>?_) (fun hg109=>?_)
  ·simp only [hg109,qc (g:=54),zv,qr,qb,zh,qa,qn,B0,reduceIte,a7]
   exact hN108 _ _ ⟨hS104,by rw [orT hg109]; simp only [B0,reduceIte,a7],f105⟩
  ·simp only [hg109,qc (g:=54),qq,f105,qp,qb,a8,a9,b4,qs,qm,B0,reduceIte,a7]
   refine qi (v:=lst qd v_0.Parts) rfl ?_
   simp only [hg109,qc (g:=54),qq,zx,qb,z1,qv,qc7,qr,zi,qa,qn,B0,reduceIte,a7]
   exact hN108 _ _ ⟨hS104,by rw [orF hg109]; simp only [B0,reduceIte,a7],f105⟩
 rintro fr110 h113 ⟨hS114,f111,f112⟩
 simp only [b7,e8]
 simp only [f111,qg,B0,reduceIte,a7]
 refine zr 5 (fun fr' h'=>Sep h' (geL h.length) ([])∧fr' 65 = .bool (((!(zu (b6 v_0.Brokers:Int) 1 6))||(decide ((5:Int) <
   (b6 v_0.Parts:Int))))||(!(zu v_0.Next 1 1000)))∧fr' 1 = .ref [lst qe v_0.Brokers,lst qd v_0.Parts,
   .int .i64 v_0.Next] 0) (fun Q115 hN116=>?_) ?_
 ·simp only [d7,e9]
  simp only [qc (g:=60),B0,reduceIte,a7]
  refine qy (t:=((!(zu (b6 v_0.Brokers:Int) 1 6))||(decide ((5:Int)<(b6 v_0.Parts:Int))))) (fun hg117=>?_) (fun hg117=>?_)
  ·simp only [hg117,qc (g:=60),zv,qr,qb,zh,qa,qn,B0,reduceIte,a7]
   exact hN116 _ _ ⟨hS114,by rw [orT hg117]; simp only [B0,reduceIte,a7],f112⟩
  ·simp only [hg117,qc (g:=60),qq,f112,qp,qb,a8,a9,b4,qs,qm,B0,reduceIte,a7]
   refine qi (v := .int .i64 v_0.Next) rfl ?_
   simp only [hg117,qc (g:=60),qq,za,B0,reduceIte,a7]
   refine ja rfl (ql qu (ql qu (ql qu zd))) (w5 (fun b hb=>decide_eq_true hb) v_0.Next 1 1000 _ rfl) ?_
   simp only [hg117,qc (g:=60),qq,je,qb,jt,qr,zi,qa,qn,B0,reduceIte,a7]
   exact hN116 _ _ ⟨hS114,by rw [orF hg117]; simp only [B0,reduceIte,a7],f112⟩
 rintro fr118 h121 ⟨hS122,f119,f120⟩
 simp only [b7,e8]
 simp only [qa,f119,qz,B0,reduceIte,a7]
 refine qx (t:=(((!(zu (b6 v_0.Brokers:Int) 1 6))||(decide ((5:Int)<(b6 v_0.Parts:Int))))||(!(zu v_0.Next 1 1000))))
   (fun hc123=>?_) (fun hc123=>?_)
 ·rw [iteT hc123] at hk12
  simp only [qh,qf,qg,qa,q8,B0,reduceIte,a7]
  have he:=qj hk12
  subst he
  simp only [zg,B0,reduceIte,a7]
  exact rfl
 rw [iteF hc123] at hk12
 simp only [zf,q6t,qh,qf,f120,qp,qb,a8,a9,b4,qs,qm,B0,reduceIte,a7]
 refine qi (v:=lst qd v_0.Parts) rfl ?_
 simp only [zx,qb,z1,qg,qa,B0,reduceIte,a7]
 obtain ⟨oc126,hX128,hk129⟩:=jo hk12
 simp only [qy9]
 refine ku (σ:=Unit) v_0.Parts (fun i124 x125 _=>qbg v_0 i124 x125 ) (fun s fr' h'=>fr' 1 = .ref [lst qe v_0.Brokers,
   lst qd v_0.Parts,.int .i64 v_0.Next] 0∧fr' 67=lst qd v_0.Parts∧Sep h' (geL h.length) ([])) hX128 ⟨f120,rfl,hS122⟩ (by simp only [B0,
   reduceIte,a7]) (by simp only [B0,reduceIte,
   a7]) (fun _ _ _ h=>h) rfl rfl (fun _ _ _ _ h=>h) (fun _ _ _ _ h=>h) (fun _ _ _ _ h=>h) (by decide) ?_ ?_
 ·rintro i124 x125 _ fr138 h139 hx143 ⟨f141,f142,hS140⟩ f144 f145 oc127 hF130 hr131 Q132 hN133 hB137 hK134 hR135 hE136
  unfold qbg at hF130
  simp only [q35,qh,qf,f142,f144,jf,B0,reduceIte,a7]
  refine qi (v := .ref (qd x125) 0) (kt hx143 rfl) ?_
  simp only [qm,B0,reduceIte,a7]
  refine qi (v := .agg [lst cI x125.Homes,lst cI x125.InStep,.int .i64 x125.Leader,.int .i64 x125.Epoch,.int .i64 x125.Stamp]) rfl ?_
  simp only [z5,B0,reduceIte,a7]
  refine zt hS140 (fun b146 h147 hS148=>?_)
  simp only [zk,B0,reduceIte,a7]
  refine zb (us:=[lst cI x125.Homes,lst cI x125.InStep,.int .i64 x125.Leader,.int .i64 x125.Epoch,.int .i64 x125.Stamp]) rfl (cs':=[lst cI x125.Homes,
    lst cI x125.InStep,.int .i64 x125.Leader,.int .i64 x125.Epoch,.int .i64 x125.Stamp]) hS148 hW rfl rfl (nle rfl) rfl (fun h150 hS151=>?_)
  simp only [qa,B0,reduceIte,a7]
  refine zq hS151 hW (by simp only [B0,reduceIte,a7]) (fun h152 hS153=>?_)
  simp only [zp,q2y,qh,qf,f141,qm,B0,reduceIte,a7]
  refine qi (v := .agg [lst qe v_0.Brokers,lst qd v_0.Parts,.int .i64 v_0.Next]) rfl ?_
  simp only [qm,B0,reduceIte,a7]
  refine qi (v := .agg [lst cI x125.Homes,lst cI x125.InStep,.int .i64 x125.Leader,.int .i64 x125.Epoch,.int .i64 x125.Stamp]) rfl ?_
  obtain ⟨v154,hx155,hF156⟩:=qk hF130
  simp only [za,B0,reduceIte,a7]
  refine ja rfl (ql (z4 (ql zn (ql zn (ql qu zd)))) (ql (z4 (ql zn (ql zn (ql qu (ql qu
    (ql qu zd)))))) zd)) (qlm (fun b hb=>decide_eq_true hb) v_0 x125 v154 hx155) ?_
  simp only [je,qb,jt,qa,qz,B0,reduceIte,a7]
  refine qx (t:=(!v154)) (fun hc157=>?_) (fun hc157=>?_)
  ·rw [iteT hc157] at hF156
   simp only [qh,qf,qg,qa,q8,B0,reduceIte,a7]
   have e158:=qj hF156
   subst e158
   have ho159:=hr131 _ rfl
   have hk160:=hk129
   rw [ho159] at hk160
   dsimp only [jnO] at hk160
   apply hR135
   have he:=qj hk160
   subst he
   simp only [zg,B0,reduceIte,a7]
   exact rfl
  rw [iteF hc157] at hF156
  simp only [zf,qn,B0,reduceIte,a7]
  have e161:=qj hF156
  exact hN133 _ _ _ e161.symm ⟨f141,f142,hS153⟩ (f144) (f145)
 rintro _ fr163 h164 rfl ⟨f166,f167,hS165⟩
 dsimp only [jnO] at hk129
 unfold qe7 at hk129
 simp only [qh,qf,qg,qa,q8,B0,reduceIte,a7]
 have he:=qj hk129
 subst he
 simp only [zg,B0,reduceIte,a7]
 exact rfl
end Go.Proofs.Ytjloihcijdcpeaa.X
