/- The functions' code comes to what the plain functions say (1). -/
import Derived.Test.YtjloihcijdcpeaaXAF
import Derived.Test.YtjloihcijdcpeaaXAD
set_option linter.unusedVariables false
set_option linter.unusedSimpArgs false
set_option maxRecDepth 100000
namespace Go.Proofs.Ytjloihcijdcpeaa.X
open Go
open Nat (reduceEqDiff)
def Partition.R:Rep Partition:=fun x cs os=>∃ (v0:XV) (c0:List Obj) (v1:XV) (c1:List Obj),SlF cI 1 3 v0 x.Homes c0∧SlF cI 1 3 v1 x.InStep c1∧cs=[v0,v1,
  .int .i64 x.Leader,.int .i64 x.Epoch,.int .i64 x.Stamp]∧c0++(c1)=os
theorem Partition.RI {x:Partition}{v0:XV}{c0:List Obj}(h0:SlF cI 1 3 v0 x.Homes c0){v1:XV}{c1:List Obj}(h1:SlF cI 1 3 v1 x.InStep c1) : Partition.R x [v0,v1,
  .int .i64 x.Leader,.int .i64 x.Epoch,.int .i64 x.Stamp] (c0++(c1)):=⟨v0,c0,v1,c1,h0,h1,rfl,rfl⟩
theorem Partition.RO:RepOk E.sz Partition.R qd 5 where
 len:=fun {x cs os} H=>by
  obtain ⟨v0,c0,v1,c1,h0,h1,rfl,rfl⟩:=H
  rfl
 flen:=fun _=>rfl
 one:=fun {x cs os} H=>by
  obtain ⟨v0,c0,v1,c1,h0,h1,rfl,rfl⟩:=H
  exact (qv (SlF.one h0) (qv (SlF.one h1) (qv rfl (qv rfl (qv rfl zx)))))
 snap:=fun {x cs os h lo S} m H hS=>by
  obtain ⟨v0,c0,v1,c1,h0,h1,rfl,rfl⟩:=H
  have hS2:Sep h lo (c0++(c1++S)):=(by simpa only [List.append_assoc] using hS)
  exact (qk (SlF.snap h0 hS2 rfl (fun _=>rfl) (fun _=>rfl)) (qk (SlF.snap h1 (Sep.m1 hS2) rfl (fun _=>rfl) (fun _=>rfl)) (qk qp (qk qp
    (qk qp ze)))))
 cut:=fun {x cs os h lo n0 keep S} m H hS hge=>by
  obtain ⟨v0,c0,v1,c1,h0,h1,rfl,rfl⟩:=H
  have hS2:Sep h lo (c0++(c1++S)):=(by simpa only [List.append_assoc] using hS)
  exact (qk (SlF.cut h0 hS2 hge rfl (fun _=>rfl) (fun _=>rfl)) (qk (SlF.cut h1 (Sep.m1 hS2) hge rfl (fun _=>rfl) (fun _=>rfl)) (qk rfl (qk rfl
    (qk rfl ze)))))
 free:=fun {x cs os} H=>by
  obtain ⟨v0,c0,v1,c1,h0,h1,rfl,rfl⟩:=H
  exact (qv (SlF.free1 h0) (qv (SlF.free1 h1) (qv rfl (qv rfl (qv rfl zx)))))
 pf:=fun {x cs os} H=>by
  obtain ⟨v0,c0,v1,c1,h0,h1,rfl,rfl⟩:=H
  exact (js (SlF.pf h0 (fun _=>rfl)) (SlF.pf h1 (fun _=>rfl)))
theorem xh {W:Nat→Bool}{h:Heap} (hW:∀ b,
  (geL h.length) b→W b=true) (n_0:Int) (low_1:Int) (high_2:Int) (r:Bool) (hF:some (zr n_0 low_1 high_2)=some r) : Ret E W 46 [.int .i64 n_0,
  .int .i64 low_1,.int .i64 high_2] h (fun v h'=>cut h.length h' E.sz false 9 v=some (.bool r)):=by
 refine Ret.of (fn:=x46) rfl (Run.of ?_)
 unfold zr at hF
 have zf0:zd [.int .i64 n_0,.int .i64 low_1,.int .i64 high_2] 0 = .int .i64 n_0:=rfl
 have zf1:zd [.int .i64 n_0,.int .i64 low_1,.int .i64 high_2] 1 = .int .i64 low_1:=rfl
 have zf2:zd [.int .i64 n_0,.int .i64 low_1,.int .i64 high_2] 2 = .int .i64 high_2:=rfl
 generalize zd [.int .i64 n_0,.int .i64 low_1,.int .i64 high_2]=fr0 at zf0 zf1 zf2 ⊢
 have hS:Sep h (geL h.length) []:=Sep.nil h
 simp only [x46,qf,qe,qh,qa,qw7,zf0,zf1,qs,qb,qcr,B0,reduceIte,reduceEqDiff]
 refine zt 4 (fun fr' h'=>Sep h' (geL h.length) ([])∧fr' 14 = .bool ((decide (low_1≤n_0))&&(decide (n_0≤high_2)))) (fun Q1 hN2=>?_) ?_
 ·simp only [List.take_succ_cons,List.take_zero]
  simp only [qc (g:=10),B0,reduceIte,reduceEqDiff]
  refine q9 (t:=(decide (low_1≤n_0))) (fun hg3=>?_) (fun hg3=>?_)
  ·simp only [hg3,qc (g:=10),q8,zf0,qh,zf2,qs,qb,q6y,qr,zj,qa,qo,B0,reduceIte,reduceEqDiff]
   exact hN2 _ _ ⟨hS,by rw [kw hg3]; simp only [B0,reduceIte,reduceEqDiff]⟩
  ·simp only [hg3,qc (g:=10),zz,qr,qb,zi,qa,qo,B0,reduceIte,reduceEqDiff]
   exact hN2 _ _ ⟨hS,by rw [kv hg3]; simp only [B0,reduceIte,reduceEqDiff]⟩
 rintro fr4 h6 ⟨hS7,f5⟩
 simp only [List.drop_succ_cons,List.drop_zero]
 simp only [f5,qh,qa,qx,B0,reduceIte,reduceEqDiff]
 have he:=qj hF
 subst he
 simp only [qw,B0,reduceIte,reduceEqDiff]
 exact rfl
theorem qcu {W:Nat→Bool}{h:Heap} (hW:∀ b,
  (geL h.length) b→W b=true) (list_0:List Int) (many_1:Int) (r:Bool) (hF:wj list_0 many_1=some r) : Ret E W 75 [lst cI list_0,
  .int .i64 many_1] h (fun v h'=>cut h.length h' E.sz false 9 v=some (.bool r)):=by
 refine Ret.of (fn:=x75) rfl (Run.of ?_)
 unfold wj at hF
 have zf0:zd [lst cI list_0,.int .i64 many_1] 0=lst cI list_0:=rfl
 have zf1:zd [lst cI list_0,.int .i64 many_1] 1 = .int .i64 many_1:=rfl
 generalize zd [lst cI list_0,.int .i64 many_1]=fr0 at zf0 zf1 ⊢
 have hS:Sep h (geL h.length) []:=Sep.nil h
 simp only [x75,qf,qe,qh,qa,qwp,zf0,zq,qb,zw,B0,reduceIte,reduceEqDiff]
 obtain ⟨oc3,hX5,hk6⟩:=jl hF
 simp only [qv4]
 refine yf (σ:=Unit) list_0 (fun i1 x2 _=>qaj list_0 many_1 i1 x2 )
   (fun s fr' h'=>fr' 0=lst cI list_0∧fr' 1 = .int .i64 many_1∧fr' 7=lst cI list_0∧Sep h' (geL h.length) ([])) hX5 ⟨zf0,zf1,rfl,hS⟩ (by simp only [B0,reduceIte,
   reduceEqDiff]) (by simp only [B0,reduceIte,reduceEqDiff]) (fun _ _ _ h=>h) rfl rfl (fun _ _ _ _ h=>h) (fun _ _ _ _ h=>h) (fun _ _ _ _ h=>h) (by decide) ?_ ?_
 ·rintro i1 x2 _ fr15 h16 hx21 ⟨f18,f19,f20,hS17⟩ f22 f23 oc4 hF7 hr8 Q9 hN10 hB14 hK11 hR12 hE13
  unfold qaj at hF7
  simp only [qwy,qf,qe,f22,qh,f20,z1,B0,reduceIte,reduceEqDiff]
  refine qi (v := .ref (cI x2) 0) (ye hx21 rfl) ?_
  simp only [ql,B0,reduceIte,reduceEqDiff]
  refine qi (v := .int .i64 x2) rfl ?_
  simp only [qh,qa,qyd,qf,qe,f19,qs,qb,qgc,zg,B0,reduceIte,reduceEqDiff]
  refine z5 rfl (qk qp (qk qp (qk qp ze))) (xh (fun b hb=>decide_eq_true hb) x2 0 (IntKind.wrap .i64 (many_1 - 1)) _ rfl) ?_
  simp only [ji,qb,j5,qh,B0,reduceIte,reduceEqDiff]
  obtain ⟨v27,hx28,hF29⟩:=qm hF7
  refine zt 12 (fun fr' h'=>Sep h' (geL h.length) ([])∧fr' 31 = .bool v27∧fr' 0=lst cI list_0∧fr' 1 = .int .i64 many_1∧fr' 7=lst cI list_0∧fr' 8 = .int .i64
    (List.length list_0:Int)∧fr' 9 = .int .i64 (i1:Int)) (fun Q24 hN25=>?_) ?_
  ·simp only [List.take_succ_cons,List.take_zero]
   simp only [qc (g:=19),B0,reduceIte,reduceEqDiff]
   refine q9 (t:=(!(zr x2 0 (IntKind.wrap .i64 (many_1 - 1))))) (fun hg26=>?_) (fun hg26=>?_)
   ·rw [iteT hg26] at hx28
    simp only [hg26,qc (g:=19),zu,qc (g:=22),qbg,qr,qb,zj,qa,qo,B0,reduceIte,reduceEqDiff]
    have e30:=qj hx28
    exact hN25 _ _ ⟨hS17,by rw [←e30]; simp only [B0,reduceIte,reduceEqDiff],f18,f19,f20,f23,f22⟩
   ·rw [iteF hg26] at hx28
    simp only [hg26,qc (g:=19),qt,qh,qs,qb,qii,B0,reduceIte,reduceEqDiff]
    obtain ⟨v34,hx35,hF36⟩:=qm hx28
    refine zt 8 (fun fr' h'=>Sep h' (geL h.length)
      ([])∧fr' 30 = .bool v34∧fr' 0=lst cI list_0∧fr' 1 = .int .i64 many_1∧fr' 7=lst cI list_0∧fr' 8 = .int .i64
      (List.length list_0:Int)∧fr' 9 = .int .i64 (i1:Int)∧fr' 19 = .bool (!(zr x2 0 (IntKind.wrap .i64 (many_1 - 1))))) (fun Q31 hN32=>?_) ?_
    ·simp only [List.take_succ_cons,List.take_zero]
     simp only [qc (g:=22),B0,reduceIte,reduceEqDiff]
     refine q9 (t:=(decide ((0:Int)<(i1:Int)))) (fun hg33=>?_) (fun hg33=>?_)
     ·rw [iteT hg33] at hx35
      obtain ⟨x37,hx38,hF39⟩:=qm hx35
      simp only [hg33,qc (g:=22),q8,f18,qh,qs,qb,qgc,z1,B0,reduceIte,reduceEqDiff]
      refine qi (v := .ref (cI x37) 0) (kc hx38 rfl) ?_
      simp only [hg33,qc (g:=22),q8,ql,B0,reduceIte,reduceEqDiff]
      refine qi (v := .int .i64 x37) rfl ?_
      simp only [hg33,qc (g:=22),q8,qh,qs,qb,qcr,hg26,qc (g:=19),qt,qr,zj,qa,qo,
        B0,reduceIte,reduceEqDiff]
      have e40:=qj hF39
      exact hN32 _ _ ⟨hS17,by rw [←e40]; simp only [B0,reduceIte,reduceEqDiff],f18,f19,f20,f23,f22,by simp only [hg26,B0,reduceIte,reduceEqDiff]⟩
     ·rw [iteF hg33] at hx35
      simp only [hg33,qc (g:=22),zz,hg26,qc (g:=19),qt,qr,qb,zi,qa,qo,B0,reduceIte,
        reduceEqDiff]
      have e41:=qj hx35
      exact hN32 _ _ ⟨hS17,by rw [←e41]; simp only [B0,reduceIte,reduceEqDiff],f18,f19,f20,f23,f22,by simp only [hg26,B0,reduceIte,reduceEqDiff]⟩
    rintro fr42 h50 ⟨hS51,f43,f44,f45,f46,f47,f48,f49⟩
    simp only [List.drop_succ_cons,List.drop_zero]
    simp only [f49,hg26,qr,qb,zi,f43,qa,qo,B0,reduceIte,reduceEqDiff]
    have e52:=qj hF36
    exact hN25 _ _ ⟨hS51,by rw [←e52]; simp only [B0,reduceIte,reduceEqDiff],f44,f45,f46,f47,f48⟩
  rintro fr53 h60 ⟨hS61,f54,f55,f56,f57,f58,f59⟩
  simp only [List.drop_succ_cons,List.drop_zero]
  simp only [qa,f54,qy,B0,reduceIte,reduceEqDiff]
  refine qu (t:=v27) (fun hc62=>?_) (fun hc62=>?_)
  ·rw [iteT hc62] at hF29
   simp only [qf,qe,qh,qa,qx,B0,reduceIte,reduceEqDiff]
   have e63:=qj hF29
   subst e63
   have ho64:=hr8 _ rfl
   have hk65:=hk6
   rw [ho64] at hk65
   dsimp only [jnO] at hk65
   apply hR12
   have he:=qj hk65
   subst he
   simp only [qw,B0,reduceIte,reduceEqDiff]
   exact rfl
  rw [iteF hc62] at hF29
  simp only [za,qo,B0,reduceIte,reduceEqDiff]
  have e66:=qj hF29
  exact hN10 _ _ _ e66.symm ⟨f55,f56,f57,hS61⟩ (f59) (f58)
 rintro _ fr68 h69 rfl ⟨f71,f72,f73,hS70⟩
 dsimp only [jnO] at hk6
 unfold qep at hk6
 simp only [qf,qe,qh,qa,qx,B0,reduceIte,reduceEqDiff]
 have he:=qj hk6
 subst he
 simp only [qw,B0,reduceIte,reduceEqDiff]
 exact rfl
theorem qjh {W:Nat→Bool}{h:Heap} (hW:∀ b,
  (geL h.length) b→W b=true) (v_0:Command) (v_1:Int) (r:Bool) (hF:qba v_0 v_1=some r) : Ret E W 48 [.agg [.int .i64 v_0.Kind,.int .i64 v_0.Broker,
  .int .i64 v_0.Epoch,.int .i64 v_0.Part,.int .i64 v_0.Stamp,lst cI v_0.InStep],.int .i64 v_1] h (fun v h'=>cut h.length h' E.sz false 9 v=some (.bool r)):=by
 refine Ret.of (fn:=x48) rfl (Run.of ?_)
 unfold qba at hF
 have zf0:zd [.agg [.int .i64 v_0.Kind,.int .i64 v_0.Broker,.int .i64 v_0.Epoch,.int .i64 v_0.Part,.int .i64 v_0.Stamp,lst cI v_0.InStep],
   .int .i64 v_1] 0 = .agg [.int .i64 v_0.Kind,.int .i64 v_0.Broker,.int .i64 v_0.Epoch,.int .i64 v_0.Part,.int .i64 v_0.Stamp,lst cI v_0.InStep]:=rfl
 have zf1:zd [.agg [.int .i64 v_0.Kind,.int .i64 v_0.Broker,.int .i64 v_0.Epoch,.int .i64 v_0.Part,.int .i64 v_0.Stamp,lst cI v_0.InStep],
   .int .i64 v_1] 1 = .int .i64 v_1:=rfl
 generalize zd [.agg [.int .i64 v_0.Kind,.int .i64 v_0.Broker,.int .i64 v_0.Epoch,.int .i64 v_0.Part,.int .i64 v_0.Stamp,lst cI v_0.InStep],
   .int .i64 v_1]=fr0 at zf0 zf1 ⊢
 have hS:Sep h (geL h.length) []:=Sep.nil h
 simp only [x48,qf,qe,ja,zf0,B0,reduceIte,reduceEqDiff]
 refine z0 (cs:=[.int .i64 v_0.Kind,.int .i64 v_0.Broker,.int .i64 v_0.Epoch,.int .i64 v_0.Part,.int .i64 v_0.Stamp,
   lst cI v_0.InStep]) hS rfl rfl rfl (fun b1 h2 hS3=>?_)
 simp only [qh,qa,B0,reduceIte,reduceEqDiff]
 refine zn hS3 hW (by simp only [B0,reduceIte,reduceEqDiff]) (fun h5 hS6=>?_)
 simp only [zo,qr0,qf,qe,qn,qb,Nat.reduceAdd,Nat.zero_add,Nat.add_zero,qq,ql,B0,reduceIte,reduceEqDiff]
 refine qi (v := .int .i64 v_0.Broker) rfl ?_
 simp only [zf1,qh,qs,qb,qgc,zg,B0,reduceIte,reduceEqDiff]
 refine z5 rfl (qk qp (qk qp (qk qp ze))) (xh (fun b hb=>decide_eq_true hb) v_0.Broker 0 (IntKind.wrap .i64 (v_1 - 1)) _ rfl) ?_
 simp only [ji,qb,j5,qh,B0,reduceIte,reduceEqDiff]
 refine zt 5 (fun fr' h'=>Sep h' (geL h.length) ([])∧fr' 17 = .bool ((!(zr v_0.Broker 0 (IntKind.wrap .i64 (v_1 - 1)))) ||
   (!(zr v_0.Epoch 0 1000)))∧fr' 1 = .int .i64 v_1∧fr' 2 = .ref [.int .i64 v_0.Kind,.int .i64 v_0.Broker,.int .i64 v_0.Epoch,.int .i64 v_0.Part,
   .int .i64 v_0.Stamp,lst cI v_0.InStep] 0) (fun Q7 hN8=>?_) ?_
 ·simp only [List.take_succ_cons,List.take_zero]
  simp only [qc (g:=12),B0,reduceIte,reduceEqDiff]
  refine q9 (t:=(!(zr v_0.Broker 0 (IntKind.wrap .i64 (v_1 - 1))))) (fun hg9=>?_) (fun hg9=>?_)
  ·simp only [hg9,qc (g:=12),zu,qr,qb,zj,qa,qo,B0,reduceIte,reduceEqDiff]
   exact hN8 _ _ ⟨hS6,by rw [orT hg9]; simp only [B0,reduceIte,reduceEqDiff],zf1,rfl⟩
  ·simp only [hg9,qc (g:=12),qt,qn,qb,Nat.reduceAdd,Nat.zero_add,Nat.add_zero,qq,ql,B0,reduceIte,reduceEqDiff]
   refine qi (v := .int .i64 v_0.Epoch) rfl ?_
   simp only [hg9,qc (g:=12),qt,zg,B0,reduceIte,reduceEqDiff]
   refine z5 rfl (qk qp (qk qp (qk qp ze))) (xh (fun b hb=>decide_eq_true hb) v_0.Epoch 0 1000 _ rfl) ?_
   simp only [hg9,qc (g:=12),qt,ji,qb,j5,qr,zi,qa,qo,B0,reduceIte,reduceEqDiff]
   exact hN8 _ _ ⟨hS6,by rw [orF hg9]; simp only [B0,reduceIte,reduceEqDiff],zf1,rfl⟩
 rintro fr10 h14 ⟨hS15,f11,f12,f13⟩
 simp only [List.drop_succ_cons,List.drop_zero]
 simp only [f11,qh,B0,reduceIte,reduceEqDiff]
 refine zt 5 (fun fr' h'=>Sep h' (geL h.length) ([])∧fr' 23 = .bool (((!(zr v_0.Broker 0 (IntKind.wrap .i64 (v_1 - 1))))||(!(zr v_0.Epoch 0 1000))) ||
   (!(zr v_0.Part 0 1000)))∧fr' 1 = .int .i64 v_1∧fr' 2 = .ref [.int .i64 v_0.Kind,.int .i64 v_0.Broker,.int .i64 v_0.Epoch,.int .i64 v_0.Part,.int .i64 v_0.Stamp,
   lst cI v_0.InStep] 0) (fun Q16 hN17=>?_) ?_
 ·simp only [List.take_succ_cons,List.take_zero]
  simp only [qc (g:=18),B0,reduceIte,reduceEqDiff]
  refine q9 (t:=((!(zr v_0.Broker 0 (IntKind.wrap .i64 (v_1 - 1))))||(!(zr v_0.Epoch 0 1000)))) (fun hg18=>?_) (fun hg18=>?_)
  ·simp only [hg18,qc (g:=18),zu,qr,qb,zj,qa,qo,B0,reduceIte,reduceEqDiff]
   exact hN17 _ _ ⟨hS15,by rw [orT hg18]; simp only [B0,reduceIte,reduceEqDiff],f12,f13⟩
  ·simp only [hg18,qc (g:=18),qt,f13,qn,qb,Nat.reduceAdd,Nat.zero_add,Nat.add_zero,qq,ql,B0,reduceIte,reduceEqDiff]
   refine qi (v := .int .i64 v_0.Part) rfl ?_
   simp only [hg18,qc (g:=18),qt,zg,B0,reduceIte,reduceEqDiff]
   refine z5 rfl (qk qp (qk qp (qk qp ze))) (xh (fun b hb=>decide_eq_true hb) v_0.Part 0 1000 _ rfl) ?_
   simp only [hg18,qc (g:=18),qt,ji,qb,j5,qr,zi,qa,qo,B0,reduceIte,reduceEqDiff]
   exact hN17 _ _ ⟨hS15,by rw [orF hg18]; simp only [B0,reduceIte,reduceEqDiff],f12,f13⟩
 rintro fr19 h23 ⟨hS24,f20,f21,f22⟩
 simp only [List.drop_succ_cons,List.drop_zero]
 simp only [f20,qh,B0,reduceIte,reduceEqDiff]
 refine zt 5 (fun fr' h'=>Sep h' (geL h.length) ([])∧fr' 29 = .bool ((((!(zr v_0.Broker 0 (IntKind.wrap .i64 (v_1 - 1))))||(!(zr v_0.Epoch 0 1000))) ||
   (!(zr v_0.Part 0 1000)))||(!(zr v_0.Stamp 0 1000)))∧fr' 1 = .int .i64 v_1∧fr' 2 = .ref [.int .i64 v_0.Kind,.int .i64 v_0.Broker,.int .i64 v_0.Epoch,
   .int .i64 v_0.Part,.int .i64 v_0.Stamp,lst cI v_0.InStep] 0) (fun Q25 hN26=>?_) ?_
 ·simp only [List.take_succ_cons,List.take_zero]
  simp only [qc (g:=24),B0,reduceIte,reduceEqDiff]
  refine q9 (t:=(((!(zr v_0.Broker 0 (IntKind.wrap .i64 (v_1 - 1))))||(!(zr v_0.Epoch 0 1000)))||(!(zr v_0.Part 0 1000)))) (fun hg27=>?_)
    (fun hg27=>?_)
  ·simp only [hg27,qc (g:=24),zu,qr,qb,zj,qa,qo,B0,reduceIte,reduceEqDiff]
   exact hN26 _ _ ⟨hS24,by rw [orT hg27]; simp only [B0,reduceIte,reduceEqDiff],f21,f22⟩
  ·simp only [hg27,qc (g:=24),qt,f22,qn,qb,Nat.reduceAdd,Nat.zero_add,Nat.add_zero,qq,ql,B0,reduceIte,reduceEqDiff]
   refine qi (v := .int .i64 v_0.Stamp) rfl ?_
   simp only [hg27,qc (g:=24),qt,zg,B0,reduceIte,reduceEqDiff]
   refine z5 rfl (qk qp (qk qp (qk qp ze))) (xh (fun b hb=>decide_eq_true hb) v_0.Stamp 0 1000 _ rfl) ?_
   simp only [hg27,qc (g:=24),qt,ji,qb,j5,qr,zi,qa,qo,B0,reduceIte,reduceEqDiff]
   exact hN26 _ _ ⟨hS24,by rw [orF hg27]; simp only [B0,reduceIte,reduceEqDiff],f21,f22⟩
 rintro fr28 h32 ⟨hS33,f29,f30,f31⟩
 simp only [List.drop_succ_cons,List.drop_zero]
 simp only [f29,qh,B0,reduceIte,reduceEqDiff]
 obtain ⟨v37,hx38,hF39⟩:=qm hF
 refine zt 6 (fun fr' h'=>Sep h' (geL h.length) ([])∧fr' 36 = .bool v37∧fr' 2 = .ref [.int .i64 v_0.Kind,.int .i64 v_0.Broker,.int .i64 v_0.Epoch,.int .i64 v_0.Part,
   .int .i64 v_0.Stamp,lst cI v_0.InStep] 0) (fun Q34 hN35=>?_) ?_
 ·simp only [List.take_succ_cons,List.take_zero]
  simp only [qc (g:=30),B0,reduceIte,reduceEqDiff]
  refine q9 (t:=((((!(zr v_0.Broker 0 (IntKind.wrap .i64 (v_1 - 1))))||(!(zr v_0.Epoch 0 1000)))||(!(zr v_0.Part 0 1000))) ||
    (!(zr v_0.Stamp 0 1000)))) (fun hg36=>?_) (fun hg36=>?_)
  ·rw [iteT hg36] at hx38
   simp only [hg36,qc (g:=30),zu,qr,qb,zj,qa,qo,B0,reduceIte,reduceEqDiff]
   have e40:=qj hx38
   exact hN35 _ _ ⟨hS33,by rw [←e40]; simp only [B0,reduceIte,reduceEqDiff],f31⟩
  ·rw [iteF hg36] at hx38
   simp only [hg36,qc (g:=30),qt,f31,qn,qb,Nat.reduceAdd,Nat.zero_add,Nat.add_zero,qq,ql,B0,reduceIte,reduceEqDiff]
   refine qi (v:=lst cI v_0.InStep) rfl ?_
   obtain ⟨v41,hx42,hF43⟩:=qm hx38
   simp only [hg36,qc (g:=30),qt,f30,qh,zg,B0,reduceIte,reduceEqDiff]
   refine z5 rfl (qk zh (qk qp ze)) (qcu (fun b hb=>decide_eq_true hb) v_0.InStep v_1 v41 hx42) ?_
   simp only [hg36,qc (g:=30),qt,ji,qb,j5,qr,zi,qa,qo,B0,reduceIte,reduceEqDiff]
   have e44:=qj hF43
   exact hN35 _ _ ⟨hS33,by rw [←e44]; simp only [B0,reduceIte,reduceEqDiff],f31⟩
 rintro fr45 h48 ⟨hS49,f46,f47⟩
 simp only [List.drop_succ_cons,List.drop_zero]
 simp only [qa,f46,qy,B0,reduceIte,reduceEqDiff]
 refine qu (t:=v37) (fun hc50=>?_) (fun hc50=>?_)
 ·rw [iteT hc50] at hF39
  simp only [qf,qe,qh,qa,qx,B0,reduceIte,reduceEqDiff]
  have he:=qj hF39
  subst he
  simp only [qw,B0,reduceIte,reduceEqDiff]
  exact rfl
 rw [iteF hc50] at hF39
 simp only [za,qs0,qf,qe,f47,qn,qb,Nat.reduceAdd,Nat.zero_add,Nat.add_zero,qq,ql,B0,reduceIte,reduceEqDiff]
 refine qi (v := .int .i64 v_0.Epoch) rfl ?_
 simp only [qs,qb,jb,qh,B0,reduceIte,reduceEqDiff]
 refine zt 4 (fun fr' h'=>Sep h' (geL h.length) ([])∧fr' 44 = .bool ((decide (v_0.Epoch=0))&&(decide (v_0.Stamp=0)))∧fr' 2 = .ref [.int .i64 v_0.Kind,
   .int .i64 v_0.Broker,.int .i64 v_0.Epoch,.int .i64 v_0.Part,.int .i64 v_0.Stamp,lst cI v_0.InStep] 0) (fun Q51 hN52=>?_) ?_
 ·simp only [List.take_succ_cons,List.take_zero]
  simp only [qc (g:=40),B0,reduceIte,reduceEqDiff]
  refine q9 (t:=(decide (v_0.Epoch=0))) (fun hg53=>?_) (fun hg53=>?_)
  ·simp only [hg53,qc (g:=40),q8,f47,qn,qb,Nat.reduceAdd,Nat.zero_add,Nat.add_zero,qq,ql,B0,reduceIte,reduceEqDiff]
   refine qi (v := .int .i64 v_0.Stamp) rfl ?_
   simp only [hg53,qc (g:=40),q8,qs,qb,jb,qr,zj,qa,qo,B0,reduceIte,reduceEqDiff]
   exact hN52 _ _ ⟨hS49,by rw [kw hg53]; simp only [B0,reduceIte,reduceEqDiff],f47⟩
  ·simp only [hg53,qc (g:=40),zz,qr,qb,zi,qa,qo,B0,reduceIte,reduceEqDiff]
   exact hN52 _ _ ⟨hS49,by rw [kv hg53]; simp only [B0,reduceIte,reduceEqDiff],f47⟩
 rintro fr54 h57 ⟨hS58,f55,f56⟩
 simp only [List.drop_succ_cons,List.drop_zero]
 simp only [f55,qh,B0,reduceIte,reduceEqDiff]
 refine zt 5 (fun fr' h'=>Sep h' (geL h.length) ([])∧fr' 50 = .bool (((decide (v_0.Epoch=0))&&(decide (v_0.Stamp=0)))&&(decide
   ((List.length v_0.InStep:Int)=0)))∧fr' 2 = .ref [.int .i64 v_0.Kind,.int .i64 v_0.Broker,.int .i64 v_0.Epoch,.int .i64 v_0.Part,.int .i64 v_0.Stamp,
   lst cI v_0.InStep] 0) (fun Q59 hN60=>?_) ?_
 ·simp only [List.take_succ_cons,List.take_zero]
  simp only [qc (g:=45),B0,reduceIte,reduceEqDiff]
  refine q9 (t:=((decide (v_0.Epoch=0))&&(decide (v_0.Stamp=0)))) (fun hg61=>?_) (fun hg61=>?_)
  ·simp only [hg61,qc (g:=45),q8,f56,qn,qb,Nat.reduceAdd,Nat.zero_add,Nat.add_zero,qq,ql,B0,reduceIte,reduceEqDiff]
   refine qi (v:=lst cI v_0.InStep) rfl ?_
   simp only [hg61,qc (g:=45),q8,zq,qb,zw,qs,jb,qr,zj,qa,qo,B0,reduceIte,reduceEqDiff]
   exact hN60 _ _ ⟨hS58,by rw [kw hg61]; simp only [B0,reduceIte,reduceEqDiff],f56⟩
  ·simp only [hg61,qc (g:=45),zz,qr,qb,zi,qa,qo,B0,reduceIte,reduceEqDiff]
   exact hN60 _ _ ⟨hS58,by rw [kv hg61]; simp only [B0,reduceIte,reduceEqDiff],f56⟩
 rintro fr62 h65 ⟨hS66,f63,f64⟩
 simp only [List.drop_succ_cons,List.drop_zero]
 simp only [f63,qh,qa,qq7,qf,qe,f64,qn,qb,Nat.reduceAdd,Nat.zero_add,Nat.add_zero,qq,ql,B0,reduceIte,reduceEqDiff]
 refine qi (v := .int .i64 v_0.Kind) rfl ?_
 simp only [qa,qsu,ka,qrc,qf,qe,qs,qb,jb,qh,qta,qy,B0,reduceIte,reduceEqDiff]
 refine qu (t:=(decide (v_0.Kind=1))) (fun hc67=>?_) (fun hc67=>?_)
 ·rw [iteT hc67] at hF39
  simp only [q23,qf,qe,qh,B0,reduceIte,reduceEqDiff]
  refine zt 4 (fun fr' h'=>Sep h' (geL h.length) ([])∧fr' 60 = .bool ((((decide (v_0.Epoch=0))&&(decide (v_0.Stamp=0)))&&(decide
    ((List.length v_0.InStep:Int)=0)))&&(decide (v_0.Part=0)))) (fun Q68 hN69=>?_) ?_
  ·simp only [List.take_succ_cons,List.take_zero]
   simp only [qc (g:=56),B0,reduceIte,reduceEqDiff]
   refine q9 (t:=(((decide (v_0.Epoch=0))&&(decide (v_0.Stamp=0)))&&(decide ((List.length v_0.InStep:Int)=0)))) (fun hg70=>?_) (fun hg70=>?_)
   ·simp only [hg70,qc (g:=56),q8,f64,qn,qb,Nat.reduceAdd,Nat.zero_add,Nat.add_zero,qq,ql,B0,reduceIte,reduceEqDiff]
    refine qi (v := .int .i64 v_0.Part) rfl ?_
    simp only [hg70,qc (g:=56),q8,qs,qb,jb,qr,zj,qa,qo,B0,reduceIte,reduceEqDiff]
    exact hN69 _ _ ⟨hS66,by rw [kw hg70]; simp only [B0,reduceIte,reduceEqDiff]⟩
   ·simp only [hg70,qc (g:=56),zz,qr,qb,zi,qa,qo,B0,reduceIte,reduceEqDiff]
    exact hN69 _ _ ⟨hS66,by rw [kv hg70]; simp only [B0,reduceIte,reduceEqDiff]⟩
  rintro fr71 h73 ⟨hS74,f72⟩
  simp only [List.drop_succ_cons,List.drop_zero]
  simp only [f72,qh,qa,qx,B0,reduceIte,reduceEqDiff]
  have he:=qj hF39
  subst he
  simp only [qw,B0,reduceIte,reduceEqDiff]
  exact rfl
 rw [iteF hc67] at hF39
 simp only [qt3,qf,qe,qs,qb,jb,qh,qa,qtd,qy,B0,reduceIte,reduceEqDiff]
 refine qu (t:=(decide (v_0.Kind=2))) (fun hc75=>?_) (fun hc75=>?_)
 ·rw [iteT hc75] at hF39
  simp only [qv3,qf,qe,f64,qn,qb,Nat.reduceAdd,Nat.zero_add,Nat.add_zero,qq,ql,B0,reduceIte,reduceEqDiff]
  refine qi (v := .int .i64 v_0.Stamp) rfl ?_
  simp only [qs,qb,jb,qh,B0,reduceIte,reduceEqDiff]
  refine zt 5 (fun fr' h'=>Sep h' (geL h.length) ([])∧fr' 71 = .bool ((decide (v_0.Stamp=0))&&(decide
    ((List.length v_0.InStep:Int)=0)))∧fr' 2 = .ref [.int .i64 v_0.Kind,.int .i64 v_0.Broker,.int .i64 v_0.Epoch,.int .i64 v_0.Part,.int .i64 v_0.Stamp,
    lst cI v_0.InStep] 0) (fun Q76 hN77=>?_) ?_
  ·simp only [List.take_succ_cons,List.take_zero]
   simp only [qc (g:=66),B0,reduceIte,reduceEqDiff]
   refine q9 (t:=(decide (v_0.Stamp=0))) (fun hg78=>?_) (fun hg78=>?_)
   ·simp only [hg78,qc (g:=66),q8,f64,qn,qb,Nat.reduceAdd,Nat.zero_add,Nat.add_zero,qq,ql,B0,reduceIte,reduceEqDiff]
    refine qi (v:=lst cI v_0.InStep) rfl ?_
    simp only [hg78,qc (g:=66),q8,zq,qb,zw,qs,jb,qr,zj,qa,qo,B0,reduceIte,reduceEqDiff]
    exact hN77 _ _ ⟨hS66,by rw [kw hg78]; simp only [B0,reduceIte,reduceEqDiff],f64⟩
   ·simp only [hg78,qc (g:=66),zz,qr,qb,zi,qa,qo,B0,reduceIte,reduceEqDiff]
    exact hN77 _ _ ⟨hS66,by rw [kv hg78]; simp only [B0,reduceIte,reduceEqDiff],f64⟩
  rintro fr79 h82 ⟨hS83,f80,f81⟩
  simp only [List.drop_succ_cons,List.drop_zero]
  simp only [f80,qh,B0,reduceIte,reduceEqDiff]
  refine zt 4 (fun fr' h'=>Sep h' (geL h.length) ([])∧fr' 76 = .bool (((decide (v_0.Stamp=0))&&(decide ((List.length v_0.InStep:Int)=0)))&&(decide
    (v_0.Part=0)))) (fun Q84 hN85=>?_) ?_
  ·simp only [List.take_succ_cons,List.take_zero]
   simp only [qc (g:=72),B0,reduceIte,reduceEqDiff]
   refine q9 (t:=((decide (v_0.Stamp=0))&&(decide ((List.length v_0.InStep:Int)=0)))) (fun hg86=>?_) (fun hg86=>?_)
   ·simp only [hg86,qc (g:=72),q8,f81,qn,qb,Nat.reduceAdd,Nat.zero_add,Nat.add_zero,qq,ql,B0,reduceIte,reduceEqDiff]
    refine qi (v := .int .i64 v_0.Part) rfl ?_
    simp only [hg86,qc (g:=72),q8,qs,qb,jb,qr,zj,qa,qo,B0,reduceIte,reduceEqDiff]
    exact hN85 _ _ ⟨hS83,by rw [kw hg86]; simp only [B0,reduceIte,reduceEqDiff]⟩
   ·simp only [hg86,qc (g:=72),zz,qr,qb,zi,qa,qo,B0,reduceIte,reduceEqDiff]
    exact hN85 _ _ ⟨hS83,by rw [kv hg86]; simp only [B0,reduceIte,reduceEqDiff]⟩
  rintro fr87 h89 ⟨hS90,f88⟩
  simp only [List.drop_succ_cons,List.drop_zero]
  simp only [f88,qh,qa,qx,B0,reduceIte,reduceEqDiff]
  have he:=qj hF39
  subst he
  simp only [qw,B0,reduceIte,reduceEqDiff]
  exact rfl
 rw [iteF hc75] at hF39
 simp only [qpu,qf,qe,qs,qb,jb,qh,qa,qsd,qy,B0,reduceIte,reduceEqDiff]
 refine qu (t:=(decide (v_0.Kind=3))) (fun hc91=>?_) (fun hc91=>?_)
 ·rw [iteT hc91] at hF39
  simp only [qyi,qf,qe,qh,B0,reduceIte,reduceEqDiff]
  refine zt 4 (fun fr' h'=>Sep h' (geL h.length) ([])∧fr' 84 = .bool ((((decide (v_0.Epoch=0))&&(decide (v_0.Stamp=0)))&&(decide
    ((List.length v_0.InStep:Int)=0)))&&(decide (v_0.Part=0)))∧fr' 2 = .ref [.int .i64 v_0.Kind,.int .i64 v_0.Broker,.int .i64 v_0.Epoch,.int .i64 v_0.Part,
    .int .i64 v_0.Stamp,lst cI v_0.InStep] 0) (fun Q92 hN93=>?_) ?_
  ·simp only [List.take_succ_cons,List.take_zero]
   simp only [qc (g:=80),B0,reduceIte,reduceEqDiff]
   refine q9 (t:=(((decide (v_0.Epoch=0))&&(decide (v_0.Stamp=0)))&&(decide ((List.length v_0.InStep:Int)=0)))) (fun hg94=>?_) (fun hg94=>?_)
   ·simp only [hg94,qc (g:=80),q8,f64,qn,qb,Nat.reduceAdd,Nat.zero_add,Nat.add_zero,qq,ql,B0,reduceIte,reduceEqDiff]
    refine qi (v := .int .i64 v_0.Part) rfl ?_
    simp only [hg94,qc (g:=80),q8,qs,qb,jb,qr,zj,qa,qo,B0,reduceIte,reduceEqDiff]
    exact hN93 _ _ ⟨hS66,by rw [kw hg94]; simp only [B0,reduceIte,reduceEqDiff],f64⟩
   ·simp only [hg94,qc (g:=80),zz,qr,qb,zi,qa,qo,B0,reduceIte,reduceEqDiff]
    exact hN93 _ _ ⟨hS66,by rw [kv hg94]; simp only [B0,reduceIte,reduceEqDiff],f64⟩
  rintro fr95 h98 ⟨hS99,f96,f97⟩
  simp only [List.drop_succ_cons,List.drop_zero]
  simp only [f96,qh,B0,reduceIte,reduceEqDiff]
  refine zt 4 (fun fr' h'=>Sep h' (geL h.length) ([])∧fr' 89 = .bool (((((decide (v_0.Epoch=0))&&(decide (v_0.Stamp=0)))&&(decide
    ((List.length v_0.InStep:Int)=0)))&&(decide (v_0.Part=0)))&&(decide (v_0.Broker=0)))) (fun Q100 hN101=>?_) ?_
  ·simp only [List.take_succ_cons,List.take_zero]
   simp only [qc (g:=85),B0,reduceIte,reduceEqDiff]
   refine q9 (t:=((((decide (v_0.Epoch=0))&&(decide (v_0.Stamp=0)))&&(decide ((List.length v_0.InStep:Int)=0)))&&(decide (v_0.Part=0))))
     (fun hg102=>?_) (fun hg102=>?_)
   ·simp only [hg102,qc (g:=85),q8,f97,qn,qb,Nat.reduceAdd,Nat.zero_add,Nat.add_zero,qq,ql,B0,reduceIte,reduceEqDiff]
    refine qi (v := .int .i64 v_0.Broker) rfl ?_
    simp only [hg102,qc (g:=85),q8,qs,qb,jb,qr,zj,qa,qo,B0,reduceIte,reduceEqDiff]
    exact hN101 _ _ ⟨hS99,by rw [kw hg102]; simp only [B0,reduceIte,reduceEqDiff]⟩
   ·simp only [hg102,qc (g:=85),zz,qr,qb,zi,qa,qo,B0,reduceIte,reduceEqDiff]
    exact hN101 _ _ ⟨hS99,by rw [kv hg102]; simp only [B0,reduceIte,reduceEqDiff]⟩
  rintro fr103 h105 ⟨hS106,f104⟩
  simp only [List.drop_succ_cons,List.drop_zero]
  simp only [f104,qh,qa,qx,B0,reduceIte,reduceEqDiff]
  have he:=qj hF39
  subst he
  simp only [qw,B0,reduceIte,reduceEqDiff]
  exact rfl
 rw [iteF hc91] at hF39
 simp only [qrt,qf,qe,qs,qb,jb,qh,qa,qz0,qy,B0,reduceIte,reduceEqDiff]
 refine qu (t:=(decide (v_0.Kind=4))) (fun hc107=>?_) (fun hc107=>?_)
 ·rw [iteT hc107] at hF39
  simp only [q1q,qf,qe,f64,qn,qb,Nat.reduceAdd,Nat.zero_add,Nat.add_zero,qq,ql,B0,reduceIte,reduceEqDiff]
  refine qi (v := .int .i64 v_0.Epoch) rfl ?_
  simp only [qs,qb,jb,qh,B0,reduceIte,reduceEqDiff]
  refine zt 4 (fun fr' h'=>Sep h' (geL h.length) ([])∧fr' 99 = .bool ((decide (v_0.Epoch=0))&&(decide (v_0.Stamp=0)))∧fr' 2 = .ref [.int .i64 v_0.Kind,
    .int .i64 v_0.Broker,.int .i64 v_0.Epoch,.int .i64 v_0.Part,.int .i64 v_0.Stamp,lst cI v_0.InStep] 0) (fun Q108 hN109=>?_) ?_
  ·simp only [List.take_succ_cons,List.take_zero]
   simp only [qc (g:=95),B0,reduceIte,reduceEqDiff]
   refine q9 (t:=(decide (v_0.Epoch=0))) (fun hg110=>?_) (fun hg110=>?_)
   ·simp only [hg110,qc (g:=95),q8,f64,qn,qb,Nat.reduceAdd,Nat.zero_add,Nat.add_zero,qq,ql,B0,reduceIte,reduceEqDiff]
    refine qi (v := .int .i64 v_0.Stamp) rfl ?_
    simp only [hg110,qc (g:=95),q8,qs,qb,jb,qr,zj,qa,qo,B0,reduceIte,reduceEqDiff]
    exact hN109 _ _ ⟨hS66,by rw [kw hg110]; simp only [B0,reduceIte,reduceEqDiff],f64⟩
   ·simp only [hg110,qc (g:=95),zz,qr,qb,zi,qa,qo,B0,reduceIte,reduceEqDiff]
    exact hN109 _ _ ⟨hS66,by rw [kv hg110]; simp only [B0,reduceIte,reduceEqDiff],f64⟩
  rintro fr111 h114 ⟨hS115,f112,f113⟩
  simp only [List.drop_succ_cons,List.drop_zero]
  simp only [f112,qh,B0,reduceIte,reduceEqDiff]
  refine zt 4 (fun fr' h'=>Sep h' (geL h.length) ([])∧fr' 104 = .bool (((decide (v_0.Epoch=0))&&(decide (v_0.Stamp=0)))&&(decide
    (v_0.Part=0)))∧fr' 2 = .ref [.int .i64 v_0.Kind,.int .i64 v_0.Broker,.int .i64 v_0.Epoch,.int .i64 v_0.Part,.int .i64 v_0.Stamp,
    lst cI v_0.InStep] 0) (fun Q116 hN117=>?_) ?_
  ·simp only [List.take_succ_cons,List.take_zero]
   simp only [qc (g:=100),B0,reduceIte,reduceEqDiff]
   refine q9 (t:=((decide (v_0.Epoch=0))&&(decide (v_0.Stamp=0)))) (fun hg118=>?_) (fun hg118=>?_)
   ·simp only [hg118,qc (g:=100),q8,f113,qn,qb,Nat.reduceAdd,Nat.zero_add,Nat.add_zero,qq,ql,B0,reduceIte,reduceEqDiff]
    refine qi (v := .int .i64 v_0.Part) rfl ?_
    simp only [hg118,qc (g:=100),q8,qs,qb,jb,qr,zj,qa,qo,B0,reduceIte,reduceEqDiff]
    exact hN117 _ _ ⟨hS115,by rw [kw hg118]; simp only [B0,reduceIte,reduceEqDiff],f113⟩
   ·simp only [hg118,qc (g:=100),zz,qr,qb,zi,qa,qo,B0,reduceIte,reduceEqDiff]
    exact hN117 _ _ ⟨hS115,by rw [kv hg118]; simp only [B0,reduceIte,reduceEqDiff],f113⟩
  rintro fr119 h122 ⟨hS123,f120,f121⟩
  simp only [List.drop_succ_cons,List.drop_zero]
  simp only [f120,qh,B0,reduceIte,reduceEqDiff]
  refine zt 4 (fun fr' h'=>Sep h' (geL h.length) ([])∧fr' 109 = .bool ((((decide (v_0.Epoch=0))&&(decide (v_0.Stamp=0)))&&(decide (v_0.Part=0)))&&(decide
    (v_0.Broker=0)))) (fun Q124 hN125=>?_) ?_
  ·simp only [List.take_succ_cons,List.take_zero]
   simp only [qc (g:=105),B0,reduceIte,reduceEqDiff]
   refine q9 (t:=(((decide (v_0.Epoch=0))&&(decide (v_0.Stamp=0)))&&(decide (v_0.Part=0)))) (fun hg126=>?_) (fun hg126=>?_)
   ·simp only [hg126,qc (g:=105),q8,f121,qn,qb,Nat.reduceAdd,Nat.zero_add,Nat.add_zero,qq,ql,B0,reduceIte,reduceEqDiff]
    refine qi (v := .int .i64 v_0.Broker) rfl ?_
    simp only [hg126,qc (g:=105),q8,qs,qb,jb,qr,zj,qa,qo,B0,reduceIte,reduceEqDiff]
    exact hN125 _ _ ⟨hS123,by rw [kw hg126]; simp only [B0,reduceIte,reduceEqDiff]⟩
   ·simp only [hg126,qc (g:=105),zz,qr,qb,zi,qa,qo,B0,reduceIte,reduceEqDiff]
    exact hN125 _ _ ⟨hS123,by rw [kv hg126]; simp only [B0,reduceIte,reduceEqDiff]⟩
  rintro fr127 h129 ⟨hS130,f128⟩
  simp only [List.drop_succ_cons,List.drop_zero]
  simp only [f128,qh,qa,qx,B0,reduceIte,reduceEqDiff]
  have he:=qj hF39
  subst he
  simp only [qw,B0,reduceIte,reduceEqDiff]
  exact rfl
 rw [iteF hc107] at hF39
 simp only [qzk,qf,qe,qs,qb,jb,qh,qa,q1y,qy,B0,reduceIte,reduceEqDiff]
 refine qu (t:=(decide (v_0.Kind=5))) (fun hc131=>?_) (fun hc131=>?_)
 ·rw [iteT hc131] at hF39
  simp only [qf,qe,qh,qa,qx,B0,reduceIte,reduceEqDiff]
  have he:=qj hF39
  subst he
  simp only [qw,B0,reduceIte,reduceEqDiff]
  exact rfl
 rw [iteF hc131] at hF39
 simp only [q2h,qf,qe,qs,qb,jb,qh,qa,q1h,qy,B0,reduceIte,reduceEqDiff]
 refine qu (t:=(decide (v_0.Kind=6))) (fun hc132=>?_) (fun hc132=>?_)
 ·rw [iteT hc132] at hF39
  simp only [qf,qe,qh,qa,qx,B0,reduceIte,reduceEqDiff]
  have he:=qj hF39
  subst he
  simp only [qw,B0,reduceIte,reduceEqDiff]
  exact rfl
 rw [iteF hc132] at hF39
 simp only [za,kj,qf,qe,qh,qa,qx,B0,reduceIte,reduceEqDiff]
 have he:=qj hF39
 subst he
 simp only [qw,B0,reduceIte,reduceEqDiff]
 exact rfl
theorem qcd {W:Nat→Bool}{h:Heap} (hW:∀ b,
  (geL h.length) b→W b=true) (c_0:Control) (r:Control) (hF:yq c_0=some r) : Ret E W 76 [.agg [lst qg c_0.Brokers,
  lst qd c_0.Parts,.int .i64 c_0.Next]] h (fun v h'=>∃ rv0_0 rc0_0 rv0_1 rc0_1,v = .agg [rv0_0,rv0_1,
  .int .i64 r.Next]∧SlF qg 3 86 rv0_0 r.Brokers rc0_0∧SlN Partition.R 5 39 rv0_1 r.Parts rc0_1∧Sep h' (geL h.length) (rc0_0++(rc0_1++([])))):=by
 refine Ret.of (fn:=x76) rfl (Run.of ?_)
 unfold yq at hF
 have zf0:zd [.agg [lst qg c_0.Brokers,lst qd c_0.Parts,.int .i64 c_0.Next]] 0 = .agg [lst qg c_0.Brokers,lst qd c_0.Parts,
   .int .i64 c_0.Next]:=rfl
 generalize zd [.agg [lst qg c_0.Brokers,lst qd c_0.Parts,.int .i64 c_0.Next]]=fr0 at zf0 ⊢
 have hS:Sep h (geL h.length) []:=Sep.nil h
 simp only [x76,qf,qe,ja,zf0,B0,reduceIte,reduceEqDiff]
 refine z0 (cs:=[lst qg c_0.Brokers,lst qd c_0.Parts,.int .i64 c_0.Next]) hS rfl rfl rfl (fun b1 h2 hS3=>?_)
 simp only [j6,B0,reduceIte,reduceEqDiff]
 refine jg hS3 (fun b5 h6 hS7=>?_)
 simp only [qa,B0,reduceIte,reduceEqDiff]
 refine zn (Sep.m1 hS7) hW (by simp only [B0,reduceIte,reduceEqDiff]) (fun h9 hS10=>?_)
 simp only [zo,q3t,qf,jq,qbh,evp,B0,reduceIte,reduceEqDiff]
 refine uk (n:=3) (f:=qg) ([] : List Broker) hS10 rfl rfl (fun v12 c13 h14 hv15 hS16 hq11=>?_)
 simp only [qif,B0,reduceIte,reduceEqDiff]
 refine qdk hS16 (fun b18 h19 hS20=>?_)
 simp only [jd,qz,Nat.reduceAdd,Nat.zero_add,Nat.add_zero,qq,z8,B0,reduceIte,reduceEqDiff]
 refine zf (v:=lst qg c_0.Brokers) rfl ?_
 simp only [qde,B0,reduceIte,reduceEqDiff]
 obtain ⟨l22,hx23,hF24⟩:=qm hF
 have hq25:=nwq (fun z hz=>Sep.dj (Sep.m2 (Sep.m2 hS20)) qav (SlF.rowfp hv15 z hz))
 refine qf8 qeu ?_
 refine qaf (f:=qg) hv15 (Sep.m1 hS20) hW (fun _=>rfl) (fun _=>rfl) (yg (fun _=>rfl)) hx23 (fun v26 c27 h28 hv29 hS30=>?_)
 simp only [qf6,qz,Nat.reduceAdd,Nat.zero_add,Nat.add_zero,qq,qb2,qa2,B0,reduceIte,reduceEqDiff]
 refine zf (v := .int .i64 c_0.Next) rfl ?_
 simp only [qg2,evp,B0,reduceIte,reduceEqDiff]
 refine zf (v := .agg [v26,.nil,.int .i64 c_0.Next]) (qek (qb0 (us:=[v26]) (vs:=[v26,.nil,
   .int .i64 0]) (kf (SlF.one hv29)) rfl (nle rfl) (qv (SlF.one hv29) zx) rfl (qb0 (us:=[.int .i64 c_0.Next]) (vs:=[v26,.nil,
   .int .i64 c_0.Next]) rfl rfl (nle rfl) rfl rfl qf0))) ?_
 simp only [qcp,B0,reduceIte,reduceEqDiff]
 refine qbn (us:=[v26,.nil,.int .i64 c_0.Next]) rfl (cs':=[v26,.nil,
   .int .i64 c_0.Next]) (Sep.m1 hS30) hW rfl (qv (SlF.one hv29) (qv rfl (qv rfl zx))) (nle rfl) rfl (fun h32 hS33=>?_)
 simp only [zp,q0n,qf,qe,qn,qb,Nat.reduceAdd,Nat.zero_add,Nat.add_zero,qq,ql,B0,reduceIte,reduceEqDiff]
 refine qi (v:=lst qd c_0.Parts) rfl ?_
 simp only [zq,qb,zw,qh,qa,B0,reduceIte,reduceEqDiff]
 obtain ⟨oc46,hX48,hk49⟩:=jl hF24
 simp only [qv0]
 refine yf (σ:=Control) c_0.Parts (fun i44 x45 s125=>u3 l22 i44 x45 s125) (fun s fr' h'=>∃ v41 c42,
   fr' 2 = .ptr b5 0∧fr' 3 = .ptr b18 0∧fr' 14=lst qd c_0.Parts∧SlN Partition.R 5 39 v41 s.Parts c42∧Sep h' (geL h.length) ([Blk1 b5 [.nil,.nil,
   .int .i64 0] 29]++([Blk1 b18 [v26,v41,.int .i64 s.Next] 29]++(c27++(c42++([])))))) hX48 ⟨.nil,[],rfl,rfl,rfl,SlN.nil,
   ((Sep.m2 (Sep.m1 (Sep.m1 hS33))) : Sep _ (geL h.length) ([Blk1 b5 [.nil,.nil,.int .i64 0] 29]++([Blk1 b18 [v26,.nil,
   .int .i64 c_0.Next] 29]++(c27++([])))))⟩ (by simp only [B0,reduceIte,reduceEqDiff]) (by simp only [B0,reduceIte,
   reduceEqDiff]) (fun _ _ _ h=>h) rfl rfl (fun _ _ _ _ h=>h) (fun _ _ _ _ h=>h) (fun _ _ _ _ h=>h) (by decide) ?_ ?_
 ·rintro i44 x45 s39 fr58 h59 hx64 ⟨v41,c42,f61,f62,f63,hv43,hS60⟩ f65 f66 oc47 hF50 hr51 Q52 hN53 hB57 hK54 hR55 hE56
  unfold u3 at hF50
  simp only [q3f,qf,qe,f63,f65,z1,B0,reduceIte,reduceEqDiff]
  refine qi (v := .ref (qd x45) 0) (ye hx64 rfl) ?_
  simp only [ql,B0,reduceIte,reduceEqDiff]
  refine qi (v := .agg [lst cI x45.Homes,lst cI x45.InStep,.int .i64 x45.Leader,.int .i64 x45.Epoch,.int .i64 x45.Stamp]) rfl ?_
  simp only [j6,B0,reduceIte,reduceEqDiff]
  refine jg hS60 (fun b67 h68 hS69=>?_)
  simp only [zm,B0,reduceIte,reduceEqDiff]
  refine zk (us:=[lst cI x45.Homes,lst cI x45.InStep,.int .i64 x45.Leader,.int .i64 x45.Epoch,.int .i64 x45.Stamp]) rfl (cs':=[lst cI x45.Homes,
    lst cI x45.InStep,.int .i64 x45.Leader,.int .i64 x45.Epoch,.int .i64 x45.Stamp]) hS69 hW rfl rfl (nle rfl) rfl (fun h71 hS72=>?_)
  simp only [qa,qxt,qf,qe,qbo,evp,B0,reduceIte,reduceEqDiff]
  refine qbe (n:=1) (f:=cI) ([] : List Int) hS72 rfl rfl (fun v73 c74 h75 hv76 hS77=>?_)
  simp only [qn,qb,Nat.reduceAdd,Nat.zero_add,Nat.add_zero,zb,ql,B0,reduceIte,reduceEqDiff]
  refine qi (v:=lst cI x45.Homes) ((jk (Sep.bk _ _ _ (Sep.m1 hS77))).trans rfl) ?_
  simp only [qee,B0,reduceIte,reduceEqDiff]
  obtain ⟨l79,hx80,hF81⟩:=qm hF50
  refine qdb (f:=cI) hv76 hS77 hW (fun _=>rfl) (fun _=>rfl) (yg (fun _=>rfl)) hx80 (fun v82 c83 h84 hv85 hS86=>?_)
  simp only [qn,qb,Nat.reduceAdd,Nat.zero_add,Nat.add_zero,zb,zm,B0,reduceIte,reduceEqDiff]
  refine zk (us:=[v82]) (kf (SlF.one hv85)) (cs':=[v82,lst cI x45.InStep,.int .i64 x45.Leader,.int .i64 x45.Epoch,
    .int .i64 x45.Stamp]) (Sep.m1 hS86) hW rfl (qv (SlF.one hv85) zx) (nle rfl) rfl (fun h88 hS89=>?_)
  simp only [qa,qy1,qf,qe,qbo,evp,B0,reduceIte,reduceEqDiff]
  refine qbe (n:=1) (f:=cI) ([] : List Int) hS89 rfl rfl (fun v90 c91 h92 hv93 hS94=>?_)
  simp only [qn,qb,Nat.reduceAdd,Nat.zero_add,Nat.add_zero,zb,ql,B0,reduceIte,reduceEqDiff]
  refine qi (v:=lst cI x45.InStep) ((jk (Sep.bk _ _ _ (Sep.m1 hS94))).trans rfl) ?_
  simp only [qee,B0,reduceIte,reduceEqDiff]
  obtain ⟨l96,hx97,hF98⟩:=qm hF81
  refine qdb (f:=cI) hv93 hS94 hW (fun _=>rfl) (fun _=>rfl) (yg (fun _=>rfl)) hx97 (fun v99 c100 h101 hv102 hS103=>?_)
  simp only [qn,qb,Nat.reduceAdd,Nat.zero_add,Nat.add_zero,zb,zm,B0,reduceIte,reduceEqDiff]
  refine zk (us:=[v99]) (kf (SlF.one hv102)) (cs':=[v82,v99,.int .i64 x45.Leader,.int .i64 x45.Epoch,
    .int .i64 x45.Stamp]) (Sep.m1 hS103) hW rfl (qv (SlF.one hv102) zx) (nle rfl) rfl (fun h105 hS106=>?_)
  simp only [qa,qzl,qe,f62,qn,qb,Nat.reduceAdd,Nat.zero_add,Nat.add_zero,zb,ql,B0,reduceIte,reduceEqDiff]
  refine qi (v:=v41) ((jk (Sep.bk _ _ _ (Sep.m4 hS106))).trans rfl) ?_
  simp only [ql,B0,reduceIte,reduceEqDiff]
  refine qi (v := .agg [v82,v99,.int .i64 x45.Leader,.int .i64 x45.Epoch,.int .i64 x45.Stamp]) ((jf (Sep.bk _ _ _ hS106)).trans rfl) ?_
  simp only [qbo,evp,B0,reduceIte,reduceEqDiff]
  refine qfl (R:=Partition.R) (n:=5) (cs:=[v82,v99,.int .i64 x45.Leader,.int .i64 x45.Epoch,
    .int .i64 x45.Stamp]) (os:=c83++(c100)) (Sep.bi2 (c1:=c83) (c2:=c100) (Sep.m2 (Sep.m1 hS106))) (qb0 (us:=[v82,v99,.int .i64 x45.Leader,.int .i64 x45.Epoch,
    .int .i64 x45.Stamp]) (vs:=[v82,v99,.int .i64 x45.Leader,.int .i64 x45.Epoch,
    .int .i64 x45.Stamp]) rfl rfl (nle rfl) (qv (SlF.one hv85) (qv (SlF.one hv102) (qv rfl (qv rfl (qv rfl zx))))) rfl qf0) (Partition.RI (x :=
    (Partition.mk l79 l96 x45.Leader x45.Epoch x45.Stamp)) hv85 hv102) rfl (fun v107 c108 h109 hv110 hS111=>?_)
  simp only [qee,B0,reduceIte,reduceEqDiff]
  obtain ⟨l113,hx114,hF115⟩:=qm hF98
  refine qhw (R:=Partition.R) (c:=c42) hv43 hv110 (Sep.m5 hS111) hW Partition.RO.len Partition.RO.one hx114 (fun v116 c117 h118 hv119 hS120=>?_)
  simp only [f62,qn,qb,Nat.reduceAdd,Nat.zero_add,Nat.add_zero,zb,zm,B0,reduceIte,reduceEqDiff]
  refine zk (us:=[v116]) (kf (SlN.one hv119)) (cs':=[v26,v116,
    .int .i64 s39.Next]) (Sep.m3 hS120) hW rfl (qv (SlN.one hv119) zx) (nle rfl) rfl (fun h122 hS123=>?_)
  simp only [qa,qo,B0,reduceIte,reduceEqDiff]
  have e124:=qj hF115
  exact hN53 _ _ _ e124.symm ⟨v116,c117,f61,f62,f63,hv119,(Sep.m3 (Sep.m2 (Sep.m3 (Sep.m1 (Sep.dc (Sep.m2 hS123))))))⟩ (f65) (f66)
 rintro s126 fr131 h132 rfl ⟨v128,c129,f134,f135,f136,hv130,hS133⟩
 dsimp only [jnO] at hk49
 unfold qd6 at hk49
 simp only [qf,qe,f135,ql,B0,reduceIte,reduceEqDiff]
 refine qi (v := .agg [v26,v128,.int .i64 s126.Next]) ((jf (Sep.bk _ _ _ (Sep.m1 hS133))).trans rfl) ?_
 simp only [f134,zm,B0,reduceIte,reduceEqDiff]
 refine zk (us:=[v26,v128,.int .i64 s126.Next]) rfl (cs':=[v26,v128,
   .int .i64 s126.Next]) hS133 hW rfl (qv (SlF.one hv29) (qv (SlN.one hv130) (qv rfl zx))) (nle rfl) rfl (fun h137 hS138=>?_)
 simp only [qa,qx,B0,reduceIte,reduceEqDiff]
 have he:=qj hk49
 subst he
 refine uw (bb:=b5) (oo:=0) (v := .agg [v26,v128,.int .i64 s126.Next]) (by simp only [f134,B0,reduceIte,
   reduceEqDiff]) ((jf (Sep.bk _ _ _ hS138)).trans rfl) ?_
 exact ⟨v26,c27,v128,c129,by first | trivial | rfl,hv29,hv130,(Sep.m1 (Sep.m1 (Sep.dc ((Sep.dc (hS138))))))⟩
theorem qhy {W:Nat→Bool}{h:Heap} (hW:∀ b,
  (geL h.length) b→W b=true) (s_0:List Int) (v_1:Int) (r:Int) (hF:qbi s_0 v_1=some r) : Ret E W 96 [lst cI s_0,
  .int .i64 v_1] h (fun v h'=>cut h.length h' E.sz false 9 v=some (.int .i64 r)):=by
 refine Ret.of (fn:=x96) rfl (Run.of ?_)
 unfold qbi at hF
 have zf0:zd [lst cI s_0,.int .i64 v_1] 0=lst cI s_0:=rfl
 have zf1:zd [lst cI s_0,.int .i64 v_1] 1 = .int .i64 v_1:=rfl
 generalize zd [lst cI s_0,.int .i64 v_1]=fr0 at zf0 zf1 ⊢
 have hS:Sep h (geL h.length) []:=Sep.nil h
 simp only [x96,qf,qe,qh,qa,q1g,zf0,zq,qb,zw,B0,reduceIte,reduceEqDiff]
 obtain ⟨oc3,hX5,hk6⟩:=jl hF
 simp only [q19]
 refine yf (σ:=Unit) s_0 (fun i1 x2 _=>wv v_1 i1 x2 ) (fun s fr' h'=>fr' 0=lst cI s_0∧fr' 1 = .int .i64 v_1∧Sep h' (geL h.length)
   ([])) hX5 ⟨zf0,zf1,hS⟩ (by simp only [B0,reduceIte,reduceEqDiff]) (by simp only [B0,reduceIte,
   reduceEqDiff]) (fun _ _ _ h=>h) rfl rfl (fun _ _ _ _ h=>h) (fun _ _ _ _ h=>h) (fun _ _ _ _ h=>h) (by decide) ?_ ?_
 ·rintro i1 x2 _ fr15 h16 hx20 ⟨f18,f19,hS17⟩ f21 f22 oc4 hF7 hr8 Q9 hN10 hB14 hK11 hR12 hE13
  unfold wv at hF7
  simp only [qxy,qf,qe,f21,qh,qa,q0m,f19,f18,z1,B0,reduceIte,reduceEqDiff]
  refine qi (v := .ref (cI x2) 0) (ye hx20 rfl) ?_
  simp only [ql,B0,reduceIte,reduceEqDiff]
  refine qi (v := .int .i64 x2) rfl ?_
  simp only [qs,qb,jb,qa,qwf,qy,B0,reduceIte,reduceEqDiff]
  refine qu (t:=(decide (v_1=x2))) (fun hc23=>?_) (fun hc23=>?_)
  ·rw [iteT hc23] at hF7
   simp only [qf,qe,qh,qa,qx,B0,reduceIte,reduceEqDiff]
   have e24:=qj hF7
   subst e24
   have ho25:=hr8 _ rfl
   have hk26:=hk6
   rw [ho25] at hk26
   dsimp only [jnO] at hk26
   apply hR12
   have he:=qj hk26
   subst he
   simp only [qw,B0,reduceIte,reduceEqDiff]
   exact rfl
  rw [iteF hc23] at hF7
  simp only [za,qo,B0,reduceIte,reduceEqDiff]
  have e27:=qj hF7
  exact hN10 _ _ _ e27.symm ⟨f18,f19,hS17⟩ (f21) (f22)
 rintro _ fr29 h30 rfl ⟨f32,f33,hS31⟩
 dsimp only [jnO] at hk6
 unfold qd5 at hk6
 simp only [qf,qe,qh,qa,qx,B0,reduceIte,reduceEqDiff]
 have he:=qj hk6
 subst he
 simp only [qw,B0,reduceIte,reduceEqDiff]
 exact rfl
theorem y6 {W:Nat→Bool}{h:Heap} (hW:∀ b,
  (geL h.length) b→W b=true) (s_0:List Int) (v_1:Int) (r:Bool) (hF:jr s_0 v_1=some r) : Ret E W 80 [lst cI s_0,
  .int .i64 v_1] h (fun v h'=>cut h.length h' E.sz false 9 v=some (.bool r)):=by
 refine Ret.of (fn:=x80) rfl (Run.of ?_)
 unfold jr at hF
 have zf0:zd [lst cI s_0,.int .i64 v_1] 0=lst cI s_0:=rfl
 have zf1:zd [lst cI s_0,.int .i64 v_1] 1 = .int .i64 v_1:=rfl
 generalize zd [lst cI s_0,.int .i64 v_1]=fr0 at zf0 zf1 ⊢
 have hS:Sep h (geL h.length) []:=Sep.nil h
 obtain ⟨v1,hx2,hF3⟩:=qm hF
 simp only [x80,qf,qe,qh,qa,q16,zf0,zf1,zg,B0,reduceIte,reduceEqDiff]
 refine z5 rfl (qk zh (qk qp ze)) (qhy (fun b hb=>decide_eq_true hb) s_0 v_1 v1 hx2) ?_
 simp only [qs,qb,qcr,qh,qa,qx,B0,reduceIte,reduceEqDiff]
 have he:=qj hF3
 subst he
 simp only [qw,B0,reduceIte,reduceEqDiff]
 exact rfl
theorem qk6 {W:Nat→Bool}{h:Heap} (hW:∀ b,
  (geL h.length) b→W b=true) (k_0:Int) (cap_0:List Int) (r:Bool) (hF:qdp k_0 cap_0=some r) : Ret E W 95 [.int .i64 k_0,
  .ref ((cL cI) cap_0) 0] h (fun v h'=>cut h.length h' E.sz false 9 v=some (.bool r)):=by
 refine Ret.of (fn:=x95) rfl (Run.of ?_)
 unfold qdp at hF
 have zf0:zd [.int .i64 k_0,.ref ((cL cI) cap_0) 0] 0 = .int .i64 k_0:=rfl
 have zf1:zd [.int .i64 k_0,.ref ((cL cI) cap_0) 0] 1 = .ref ((cL cI) cap_0) 0:=rfl
 generalize zd [.int .i64 k_0,.ref ((cL cI) cap_0) 0]=fr0 at zf0 zf1 ⊢
 have hS:Sep h (geL h.length) []:=Sep.nil h
 simp only [x95,qf,qe,qh,qa,qxm,zf1,ql,B0,reduceIte,reduceEqDiff]
 refine qi (v:=lst cI cap_0) rfl ?_
 obtain ⟨v1,hx2,hF3⟩:=qm hF
 simp only [zf0,qh,zg,B0,reduceIte,reduceEqDiff]
 refine z5 rfl (qk zh (qk qp ze)) (y6 (fun b hb=>decide_eq_true hb) cap_0 k_0 v1 hx2) ?_
 simp only [ji,qb,j5,qh,qa,qx,B0,reduceIte,reduceEqDiff]
 have he:=qj hF3
 subst he
 simp only [qw,B0,reduceIte,reduceEqDiff]
 exact rfl
theorem qih {W:Nat→Bool}{h:Heap} (hW:∀ b,
  (geL h.length) b→W b=true) (list_0:List Int) (of_1:List Int) (r:Bool) (hF:qae list_0 of_1=some r) : Ret E W 79 [lst cI list_0,
  lst cI of_1] h (fun v h'=>cut h.length h' E.sz false 9 v=some (.bool r)):=by
 refine Ret.of (fn:=x79) rfl (Run.of ?_)
 unfold qae at hF
 have zf0:zd [lst cI list_0,lst cI of_1] 0=lst cI list_0:=rfl
 have zf1:zd [lst cI list_0,lst cI of_1] 1=lst cI of_1:=rfl
 generalize zd [lst cI list_0,lst cI of_1]=fr0 at zf0 zf1 ⊢
 have hS:Sep h (geL h.length) []:=Sep.nil h
 simp only [x79,qf,qe,ja,zf1,B0,reduceIte,reduceEqDiff]
 refine z0 (cs:=[lst cI of_1]) hS rfl rfl rfl (fun b1 h2 hS3=>?_)
 simp only [qh,qa,B0,reduceIte,reduceEqDiff]
 refine zn hS3 hW (by simp only [B0,reduceIte,reduceEqDiff]) (fun h5 hS6=>?_)
 simp only [zo,q4a,qf,qe,zf0,qh,qn6,zg,B0,reduceIte,reduceEqDiff]
 refine qau rfl (Ret.of (fn:=x94) rfl (Run.of ?_)) (fun _ _ h=>h)
 have zf7:zd ([lst cI list_0,.fn 95 [.ref [lst cI of_1] 0]]++[]) 0=lst cI list_0:=rfl
 have zf8:zd ([lst cI list_0,.fn 95 [.ref [lst cI of_1] 0]]++[]) 1 = .fn 95 [.ref [lst cI of_1] 0]:=rfl
 generalize zd ([lst cI list_0,.fn 95 [.ref [lst cI of_1] 0]]++[])=fr9 at zf7 zf8 ⊢
 simp only [x94,qf,qe,qh,qa,qoe,zf7,zf8,zg,B0,reduceIte,reduceEqDiff]
 obtain ⟨v10,hx11,hF12⟩:=qm hF
 refine qau rfl (R:=(fun u h'=>u = .int .i64 v10∧Sep h' (geL h.length) ([]))) (Ret.of (fn:=x98) rfl (Run.of ?_)) ?_
 ·have zf13:zd ([lst cI list_0,.fn 95 [.ref [lst cI of_1] 0]]++[]) 0=lst cI list_0:=rfl
  have zf14:zd ([lst cI list_0,.fn 95 [.ref [lst cI of_1] 0]]++[]) 1 = .fn 95 [.ref [lst cI of_1] 0]:=rfl
  generalize zd ([lst cI list_0,.fn 95 [.ref [lst cI of_1] 0]]++[])=fr15 at zf13 zf14 ⊢
  simp only [x98,qf,qe,qh,qa,qod,zf13,zq,qb,zw,B0,reduceIte,reduceEqDiff]
  obtain ⟨oc18,hX20,hk21⟩:=jl hx11
  simp only [qou]
  refine yf (σ:=Unit) list_0 (fun i16 x17 _=>qbr of_1 i16 x17 ) (fun s fr' h'=>fr' 0=lst cI list_0∧fr' 1 = .fn 95 [.ref [lst cI of_1] 0]∧Sep h'
    (geL h.length) ([])) hX20 ⟨zf13,zf14,hS6⟩ (by simp only [B0,reduceIte,reduceEqDiff]) (by simp only [B0,reduceIte,
    reduceEqDiff]) (fun _ _ _ h=>h) rfl rfl (fun _ _ _ _ h=>h) (fun _ _ _ _ h=>h) (fun _ _ _ _ h=>h) (by decide) ?_ ?_
  ·rintro i16 x17 _ fr30 h31 hx35 ⟨f33,f34,hS32⟩ f36 f37 oc19 hF22 hr23 Q24 hN25 hB29 hK26 hR27 hE28
   unfold qbr at hF22
   simp only [qoq,qf,qe,f36,qh,qa,qn7,f34,f33,z1,B0,reduceIte,reduceEqDiff]
   refine qi (v := .ref (cI x17) 0) (ye hx35 rfl) ?_
   simp only [ql,B0,reduceIte,reduceEqDiff]
   refine qi (v := .int .i64 x17) rfl ?_
   obtain ⟨v38,hx39,hF40⟩:=qm hF22
   simp only [zg,B0,reduceIte,reduceEqDiff]
   refine z5 rfl (qk qp ze) (qk6 (fun b hb=>decide_eq_true hb) x17 of_1 v38 hx39) ?_
   simp only [qa,qn9,qy,B0,reduceIte,reduceEqDiff]
   refine qu (t:=v38) (fun hc41=>?_) (fun hc41=>?_)
   ·rw [iteT hc41] at hF40
    simp only [qf,qe,qh,qa,qx,B0,reduceIte,reduceEqDiff]
    have e42:=qj hF40
    subst e42
    have ho43:=hr23 _ rfl
    have hk44:=hk21
    rw [ho43] at hk44
    dsimp only [jnO] at hk44
    apply hR27
    have he:=qj hk44
    subst he
    simp only [qw,B0,reduceIte,reduceEqDiff]
    exact ⟨by first | trivial | rfl,hS32⟩
   rw [iteF hc41] at hF40
   simp only [za,qo,B0,reduceIte,reduceEqDiff]
   have e45:=qj hF40
   exact hN25 _ _ _ e45.symm ⟨f33,f34,hS32⟩ (f36) (f37)
  rintro _ fr47 h48 rfl ⟨f50,f51,hS49⟩
  dsimp only [jnO] at hk21
  unfold qhm at hk21
  simp only [qf,qe,qh,qa,qx,B0,reduceIte,reduceEqDiff]
  have he:=qj hk21
  subst he
  simp only [qw,B0,reduceIte,reduceEqDiff]
  exact ⟨by first | trivial | rfl,hS49⟩
 rintro _ h53 ⟨rfl,hS54⟩
 simp only [qs,qb,qcr,qh,qa,qx,B0,reduceIte,reduceEqDiff]
 simp only [qw,B0,reduceIte,reduceEqDiff]
 simp only [ji,qb,j5,qh,qa,qx,B0,reduceIte,reduceEqDiff]
 have he:=qj hF12
 subst he
 simp only [qw,B0,reduceIte,reduceEqDiff]
 exact rfl
end Go.Proofs.Ytjloihcijdcpeaa.X
namespace Go.Proofs.Ytjloihcijdcpeaa.X
open Go
open Nat (reduceEqDiff)
theorem qi0 {W:Nat→Bool}{h:Heap}{lo:Nat→Prop}{S0:List Obj} (hW:∀ b,
  lo b→W b=true) (pb0:Nat) (v_0:Control) (pv0_0:XV) (pc0_0:List Obj) (ph0_0:SlF qg 3 86 pv0_0 v_0.Brokers pc0_0) (pv0_1:XV) (pc0_1:List Obj)
  (ph0_1:SlN Partition.R 5 39 pv0_1 v_0.Parts pc0_1) (v_1:Command) (r:Int × Control) (hF:qag v_0 v_1=some r) (hS:Sep h lo ([Blk1 pb0 [pv0_0,pv0_1,
  .int .i64 v_0.Next] 29]++(pc0_0++(pc0_1++(S0))))) : Ret E W 77 [.ptr pb0 0,.agg [.int .i64 v_1.Kind,.int .i64 v_1.Broker,.int .i64 v_1.Epoch,.int .i64 v_1.Part,
  .int .i64 v_1.Stamp,lst cI v_1.InStep]] h (fun v h'=>∃ ic0_0 iv0_1 ic0_1,
  v = .int .i64 r.1∧SlF qg 3 86 pv0_0 r.2.Brokers ic0_0∧SlN Partition.R 5 39 iv0_1 r.2.Parts ic0_1∧Sep h' lo ([Blk1 pb0 [pv0_0,iv0_1,
  .int .i64 r.2.Next] 29]++(ic0_0++(ic0_1++(S0))))):=by
 refine Ret.of (fn:=x77) rfl (Run.of ?_)
 unfold qag at hF
 have zf0:zd [.ptr pb0 0,.agg [.int .i64 v_1.Kind,.int .i64 v_1.Broker,.int .i64 v_1.Epoch,.int .i64 v_1.Part,.int .i64 v_1.Stamp,
   lst cI v_1.InStep]] 0 = .ptr pb0 0:=rfl
 have zf1:zd [.ptr pb0 0,.agg [.int .i64 v_1.Kind,.int .i64 v_1.Broker,.int .i64 v_1.Epoch,.int .i64 v_1.Part,.int .i64 v_1.Stamp,
   lst cI v_1.InStep]] 1 = .agg [.int .i64 v_1.Kind,.int .i64 v_1.Broker,.int .i64 v_1.Epoch,.int .i64 v_1.Part,.int .i64 v_1.Stamp,lst cI v_1.InStep]:=rfl
 generalize zd [.ptr pb0 0,.agg [.int .i64 v_1.Kind,.int .i64 v_1.Broker,.int .i64 v_1.Epoch,.int .i64 v_1.Part,.int .i64 v_1.Stamp,lst cI v_1.InStep]]=fr0 at zf0 zf1 ⊢
 simp only [x77,qf,qe,ja,zf1,B0,reduceIte,reduceEqDiff]
 refine z0 (cs:=[.int .i64 v_1.Kind,.int .i64 v_1.Broker,.int .i64 v_1.Epoch,.int .i64 v_1.Part,.int .i64 v_1.Stamp,
   lst cI v_1.InStep]) hS rfl rfl rfl (fun b1 h2 hS3=>?_)
 simp only [qh,qa,B0,reduceIte,reduceEqDiff]
 refine zn hS3 hW (by simp only [B0,reduceIte,reduceEqDiff]) (fun h5 hS6=>?_)
 simp only [zo,qs9,qf,jq,zf0,jy,qz,y7,z7,jd,Nat.reduceAdd,Nat.zero_add,Nat.add_zero,zb,z8,B0,reduceIte,
   reduceEqDiff]
 refine zf (v:=pv0_0) ((jk (Sep.bk _ _ _ hS6)).trans rfl) ?_
 simp only [jd,qz,Nat.reduceAdd,Nat.zero_add,Nat.add_zero,qq,z8,B0,reduceIte,reduceEqDiff]
 refine zf (v := .int .i64 v_1.Broker) rfl ?_
 obtain ⟨x7,hx8,hF9⟩:=qm hF
 simp only [ue,B0,reduceIte,reduceEqDiff]
 obtain ⟨b10,hb11⟩:=SlF.isrow ph0_0 (kz hx8)
 refine zf (SlF.ia ph0_0 hb11 hx8) ?_
 simp only [jy,qz,zp,qtq,qf,qe,qn,qb,Nat.reduceAdd,Nat.zero_add,Nat.add_zero,qq,ql,B0,reduceIte,reduceEqDiff]
 refine qi (v := .int .i64 v_1.Kind) rfl ?_
 simp only [qa,qpn,ka,qq0,qf,qe,qs,qb,jb,qh,qre,qy,B0,reduceIte,reduceEqDiff]
 refine qu (t:=(decide (v_1.Kind=1))) (fun hc12=>?_) (fun hc12=>?_)
 ·rw [iteT hc12] at hF9
  simp only [qyp,qf,qe,zf0,qh,kt,qb,z7,qn,Nat.reduceAdd,Nat.zero_add,Nat.add_zero,zb,ql,B0,reduceIte,reduceEqDiff]
  refine qi (v := .int .i64 v_0.Next) ((jk (Sep.bk _ _ _ hS6)).trans rfl) ?_
  simp only [qs,qb,jb,qa,qy,B0,reduceIte,reduceEqDiff]
  refine qu (t:=(decide (v_0.Next=1000))) (fun hc13=>?_) (fun hc13=>?_)
  ·rw [iteT hc13] at hF9
   simp only [qf,qe,qh,qa,qx,B0,reduceIte,reduceEqDiff]
   have he:=qj hF9
   subst he
   simp only [qw,B0,reduceIte,reduceEqDiff]
   exact ⟨pc0_0,pv0_1,pc0_1,by first | trivial | rfl,ph0_0,ph0_1,(Sep.m2 (Sep.m2 (Sep.m2 hS6)))⟩
  rw [iteF hc13] at hF9
  simp only [za,qzf,qf,qe,qh,zf0,kt,qb,z7,qn,Nat.reduceAdd,Nat.zero_add,Nat.add_zero,zb,ql,B0,reduceIte,
    reduceEqDiff]
  refine qi (v := .int .i64 v_0.Next) ((jk (Sep.bk _ _ _ hS6)).trans rfl) ?_
  simp only [kt,qb,z7,qn,Nat.reduceAdd,Nat.zero_add,Nat.add_zero,zb,zm,B0,reduceIte,reduceEqDiff]
  refine wz (f:=qg) (x':=(Broker.mk v_0.Next x7.Left x7.Fenced)) (o:=0) ph0_0 (Sep.m1 hS6) hW hb11 hx8 (fun _=>rfl) rfl rfl (nle rfl) rfl
    (fun c16 h14 hv17 hS15=>?_)
  have hx18:=j9 (x':=(Broker.mk v_0.Next x7.Left x7.Fenced)) hx8
  simp only [qa,q2y,qf,qe,qh,kt,qb,z7,qn,Nat.reduceAdd,Nat.zero_add,Nat.add_zero,zb,zm,B0,reduceIte,
    reduceEqDiff]
  refine wz (f:=qg) (x':=(Broker.mk v_0.Next 9 x7.Fenced)) (o:=1) hv17 hS15 hW hb11 hx18 (fun _=>rfl) rfl rfl (nle rfl) rfl (fun c21 h19 hv22 hS20=>?_)
  rw [List.set_set] at hv22
  have hx23:=j9 (x':=(Broker.mk v_0.Next 9 x7.Fenced)) hx8
  simp only [qa,qw6,qe,zf0,qh,kt,qb,z7,qn,Nat.reduceAdd,Nat.zero_add,Nat.add_zero,zb,ql,B0,reduceIte,
    reduceEqDiff]
  refine qi (v := .int .i64 v_0.Next) ((jk (Sep.bk _ _ _ (Sep.m1 hS20))).trans rfl) ?_
  simp only [qs,qb,yv,kt,z7,qn,Nat.reduceAdd,Nat.zero_add,Nat.add_zero,zb,zm,B0,reduceIte,reduceEqDiff]
  refine zk (us:=[.int .i64 (IntKind.wrap .i64 (v_0.Next+1))]) rfl (cs':=[pv0_0,pv0_1,
    .int .i64 (IntKind.wrap .i64 (v_0.Next+1))]) (Sep.m1 hS20) hW rfl rfl (nle rfl) rfl (fun h24 hS25=>?_)
  simp only [qa,kj,qf,qe,qh,qx,B0,reduceIte,reduceEqDiff]
  have he:=qj hF9
  subst he
  simp only [qw,B0,reduceIte,reduceEqDiff]
  exact ⟨c21,pv0_1,pc0_1,by first | trivial | rfl,hv22,ph0_1,(Sep.m2 (Sep.m2 (Sep.m2 hS25)))⟩
 rw [iteF hc12] at hF9
 simp only [qsz,qf,qe,qs,qb,jb,qh,qa,qq4,qy,B0,reduceIte,reduceEqDiff]
 refine qu (t:=(decide (v_1.Kind=2))) (fun hc26=>?_) (fun hc26=>?_)
 ·rw [iteT hc26] at hF9
  simp only [qyy,qf,qe,qh,kt,qb,z7,qn,Nat.reduceAdd,Nat.zero_add,Nat.add_zero,zb,ql,B0,reduceIte,reduceEqDiff]
  refine qi (v := .int .i64 x7.Epoch) ((SlF.ld (o:=0) ph0_0 (Sep.m1 hS6) hb11 hx8 (fun _=>rfl) (nle rfl)).trans rfl) ?_
  simp only [qs,qb,jb,qa,qy,B0,reduceIte,reduceEqDiff]
  refine qu (t:=(decide (x7.Epoch=0))) (fun hc27=>?_) (fun hc27=>?_)
  ·rw [iteT hc27] at hF9
   simp only [qf,qe,qh,qa,qx,B0,reduceIte,reduceEqDiff]
   have he:=qj hF9
   subst he
   simp only [qw,B0,reduceIte,reduceEqDiff]
   exact ⟨pc0_0,pv0_1,pc0_1,by first | trivial | rfl,ph0_0,ph0_1,(Sep.m2 (Sep.m2 (Sep.m2 hS6)))⟩
  rw [iteF hc27] at hF9
  simp only [za,qwr,qf,jq,jy,qz,y7,z7,jd,Nat.reduceAdd,Nat.zero_add,Nat.add_zero,zb,z8,B0,reduceIte,
    reduceEqDiff]
  refine zf (v := .int .i64 x7.Epoch) ((SlF.ld (o:=0) ph0_0 (Sep.m1 hS6) hb11 hx8 (fun _=>rfl) (nle rfl)).trans rfl) ?_
  simp only [jd,qz,Nat.reduceAdd,Nat.zero_add,Nat.add_zero,qq,z8,B0,reduceIte,reduceEqDiff]
  refine zf (v := .int .i64 v_1.Epoch) rfl ?_
  simp only [qbq,qz,kh,zp,qy,B0,reduceIte,reduceEqDiff]
  refine qu (t:=(decide (x7.Epoch≠v_1.Epoch))) (fun hc28=>?_) (fun hc28=>?_)
  ·rw [iteT hc28] at hF9
   simp only [qf,qe,qh,qa,qx,B0,reduceIte,reduceEqDiff]
   have he:=qj hF9
   subst he
   simp only [qw,B0,reduceIte,reduceEqDiff]
   exact ⟨pc0_0,pv0_1,pc0_1,by first | trivial | rfl,ph0_0,ph0_1,(Sep.m2 (Sep.m2 (Sep.m2 hS6)))⟩
  rw [iteF hc28] at hF9
  simp only [za,qxd,qe,qh,kt,qb,z7,qn,Nat.reduceAdd,Nat.zero_add,Nat.add_zero,zb,zm,B0,reduceIte,reduceEqDiff]
  refine wz (f:=qg) (x':=(Broker.mk x7.Epoch 9 x7.Fenced)) (o:=1) ph0_0 (Sep.m1 hS6) hW hb11 hx8 (fun _=>rfl) rfl rfl (nle rfl) rfl
    (fun c31 h29 hv32 hS30=>?_)
  have hx33:=j9 (x':=(Broker.mk x7.Epoch 9 x7.Fenced)) hx8
  simp only [qa,kj,qf,qe,qh,qx,B0,reduceIte,reduceEqDiff]
  have he:=qj hF9
  subst he
  simp only [qw,B0,reduceIte,reduceEqDiff]
  exact ⟨c31,pv0_1,pc0_1,by first | trivial | rfl,hv32,ph0_1,(Sep.m2 (Sep.m1 (Sep.m2 hS30)))⟩
 rw [iteF hc26] at hF9
 simp only [qsb,qf,qe,qs,qb,jb,qh,qa,qpv,qy,B0,reduceIte,reduceEqDiff]
 refine qu (t:=(decide (v_1.Kind=3))) (fun hc34=>?_) (fun hc34=>?_)
 ·rw [iteT hc34] at hF9
  simp only [qr9,qf,qe,zf0,qh,kt,qb,z7,qn,Nat.reduceAdd,Nat.zero_add,Nat.add_zero,zb,ql,B0,reduceIte,reduceEqDiff]
  refine qi (v:=pv0_0) ((jk (Sep.bk _ _ _ hS6)).trans rfl) ?_
  simp only [zq,qb,SlF.plen ph0_0,qh,qa,B0,reduceIte,reduceEqDiff]
  obtain ⟨oc43,hX45,hk46⟩:=jl hF9
  simp only [qph]
  refine qd7 (σ:=(List Broker)) (fun i41 s71=>y3 i41 s71) (fun s fr' h'=>∃ c39,
    fr' 0 = .ptr pb0 0∧SlF qg 3 86 pv0_0 s c39∧Sep h' lo ([Blk1 pb0 [pv0_0,pv0_1,.int .i64 v_0.Next] 29]++(c39++(pc0_1++(S0))))) hX45 ⟨pc0_0,zf0,ph0_0,
    (Sep.m2 (Sep.m2 (Sep.m2 hS6)))⟩ (by simp only [B0,reduceIte,reduceEqDiff]) (by simp only [B0,reduceIte,
    reduceEqDiff]) (fun _ _ _ h=>h) rfl rfl (fun _ _ _ _ h=>h) (fun _ _ _ _ h=>h) (fun _ _ _ _ h=>h) (by decide) ?_ ?_
  ·rintro i41 s38 fr55 h56 hx59 ⟨c39,f58,hv40,hS57⟩ f60 f61 oc44 hF47 hr48 Q49 hN50 hB54 hK51 hR52 hE53
   unfold y3 at hF47
   simp only [qx2,qf,qe,f60,qh,qa,qz5,jq,f58,jy,qz,y7,z7,jd,Nat.reduceAdd,Nat.zero_add,Nat.add_zero,
     zb,z8,B0,reduceIte,reduceEqDiff]
   refine zf (v:=pv0_0) ((jk (Sep.bk _ _ _ hS57)).trans rfl) ?_
   simp only [jy,qz,f58,y7,z7,jd,Nat.reduceAdd,Nat.zero_add,Nat.add_zero,zb,z8,B0,reduceIte,reduceEqDiff]
   refine zf (v:=pv0_0) ((jk (Sep.bk _ _ _ hS57)).trans rfl) ?_
   obtain ⟨x62,hx63,hF64⟩:=qm hF47
   simp only [jy,qz,ue,B0,reduceIte,reduceEqDiff]
   refine zf (SlF.ia hv40 hb11 hx63) ?_
   simp only [jd,qz,Nat.reduceAdd,Nat.zero_add,Nat.add_zero,zb,z8,B0,reduceIte,reduceEqDiff]
   refine zf (v := .int .i64 x62.Left) ((SlF.ld (o:=1) hv40 (Sep.m1 hS57) hb11 hx63 (fun _=>rfl) (nle rfl)).trans rfl) ?_
   simp only [qbq,qz,qgc,q51,q7h,ue,B0,reduceIte,reduceEqDiff]
   refine zf (SlF.ia hv40 hb11 hx63) ?_
   simp only [jd,qz,Nat.reduceAdd,Nat.zero_add,Nat.add_zero,zb,qcp,B0,reduceIte,reduceEqDiff]
   refine qh8 (f:=qg) (x':=(Broker.mk x62.Epoch (mxI (IntKind.wrap .i64 (x62.Left - 1)) 0) x62.Fenced)) (o:=1) hv40 (Sep.m1 hS57) hW hb11 hx63
     (fun _=>rfl) rfl rfl (nle rfl) rfl (fun c67 h65 hv68 hS66=>?_)
   have hx69:=j9 (x':=(Broker.mk x62.Epoch (mxI (IntKind.wrap .i64 (x62.Left - 1)) 0) x62.Fenced)) hx63
   simp only [zp,qo,B0,reduceIte,reduceEqDiff]
   have e70:=qj hF64
   exact hN50 _ _ _ e70.symm ⟨c67,f58,hv68,(Sep.m2 (Sep.m1 (Sep.m2 hS66)))⟩ (f60) (f61)
  rintro s72 fr75 h76 rfl ⟨c73,f78,hv74,hS77⟩
  dsimp only [jnO] at hk46
  unfold qcl at hk46
  simp only [kj,qf,qe,qh,qa,qx,B0,reduceIte,reduceEqDiff]
  have he:=qj hk46
  subst he
  simp only [qw,B0,reduceIte,reduceEqDiff]
  exact ⟨c73,pv0_1,pc0_1,by first | trivial | rfl,hv74,ph0_1,(Sep.m2 (Sep.m2 (Sep.m2 hS77)))⟩
 rw [iteF hc34] at hF9
 simp only [qrj,qf,qe,qs,qb,jb,qh,qa,qpo,qy,B0,reduceIte,reduceEqDiff]
 refine qu (t:=(decide (v_1.Kind=4))) (fun hc80=>?_) (fun hc80=>?_)
 ·rw [iteT hc80] at hF9
  simp only [qsp,qf,qe,qn,qb,Nat.reduceAdd,Nat.zero_add,Nat.add_zero,qq,ql,B0,reduceIte,reduceEqDiff]
  refine qi (v:=lst cI v_1.InStep) rfl ?_
  simp only [zq,qb,zw,qs,jb,qh,B0,reduceIte,reduceEqDiff]
  refine zt 7 (fun fr' h'=>Sep h' lo ([Blk1 pb0 [pv0_0,pv0_1,
    .int .i64 v_0.Next] 29]++(pc0_0++(pc0_1++(S0))))∧fr' 99 = .bool ((decide ((List.length v_1.InStep:Int)=0))||(decide
    ((List.length v_0.Parts:Int)=5)))∧fr' 0 = .ptr pb0 0∧fr' 3 = .ref [.int .i64 v_1.Kind,.int .i64 v_1.Broker,.int .i64 v_1.Epoch,.int .i64 v_1.Part,
    .int .i64 v_1.Stamp,lst cI v_1.InStep] 0) (fun Q81 hN82=>?_) ?_
  ·simp only [List.take_succ_cons,List.take_zero]
   simp only [qc (g:=92),B0,reduceIte,reduceEqDiff]
   refine q9 (t:=(decide ((List.length v_1.InStep:Int)=0))) (fun hg83=>?_) (fun hg83=>?_)
   ·simp only [hg83,qc (g:=92),zu,qr,qb,zj,qa,qo,B0,reduceIte,reduceEqDiff]
    exact hN82 _ _ ⟨(Sep.m2 (Sep.m2 (Sep.m2 hS6))),by rw [orT hg83]; simp only [B0,reduceIte,reduceEqDiff],zf0,rfl⟩
   ·simp only [hg83,qc (g:=92),qt,zf0,qh,kt,qb,z7,qn,Nat.reduceAdd,Nat.zero_add,Nat.add_zero,zb,ql,B0,
     reduceIte,reduceEqDiff]
    refine qi (v:=pv0_1) ((jk (Sep.bk _ _ _ hS6)).trans rfl) ?_
    simp only [hg83,qc (g:=92),qt,zq,qb,SlN.len ph0_1,qs,jb,qr,zi,qa,qo,B0,reduceIte,reduceEqDiff]
    exact hN82 _ _ ⟨(Sep.m2 (Sep.m2 (Sep.m2 hS6))),by rw [orF hg83]; simp only [B0,reduceIte,reduceEqDiff],zf0,rfl⟩
  rintro fr84 h88 ⟨hS89,f85,f86,f87⟩
  simp only [List.drop_succ_cons,List.drop_zero]
  simp only [qa,f85,qy,B0,reduceIte,reduceEqDiff]
  refine qu (t:=((decide ((List.length v_1.InStep:Int)=0))||(decide ((List.length v_0.Parts:Int)=5)))) (fun hc90=>?_) (fun hc90=>?_)
  ·rw [iteT hc90] at hF9
   simp only [qf,qe,qh,qa,qx,B0,reduceIte,reduceEqDiff]
   have he:=qj hF9
   subst he
   simp only [qw,B0,reduceIte,reduceEqDiff]
   exact ⟨pc0_0,pv0_1,pc0_1,by first | trivial | rfl,ph0_0,ph0_1,(Sep.m2 (Sep.m2 (Sep.m2 hS89)))⟩
  rw [iteF hc90] at hF9
  simp only [za,qsg,jq,qbh,evp,B0,reduceIte,reduceEqDiff]
  refine uk (n:=1) (f:=cI) ([] : List Int) hS89 rfl rfl (fun v92 c93 h94 hv95 hS96 hq91=>?_)
  simp only [f87,jd,qz,Nat.reduceAdd,Nat.zero_add,Nat.add_zero,qq,z8,B0,reduceIte,reduceEqDiff]
  refine zf (v:=lst cI v_1.InStep) rfl ?_
  simp only [qlc,evp,B0,reduceIte,reduceEqDiff]
  refine qhl (n:=1) (f:=cI) ([] : List Int) hS96 rfl rfl (fun v98 c99 h100 hv101 hS102=>?_)
  simp only [f87,qf6,qz,Nat.reduceAdd,Nat.zero_add,Nat.add_zero,qq,qb2,qa2,B0,reduceIte,reduceEqDiff]
  refine zf (v:=lst cI v_1.InStep) rfl ?_
  simp only [f86,q34,qz,q6d,z7,qf6,Nat.reduceAdd,Nat.zero_add,Nat.add_zero,zb,qb2,B0,reduceIte,reduceEqDiff]
  refine qks (Sep.ltk hS89) ?_
  refine zf (v:=pv0_1) ((jk (Sep.bk _ _ _ (Sep.m2 hS102))).trans rfl) ?_
  simp only [qde,B0,reduceIte,reduceEqDiff]
  obtain ⟨l104,hx105,hF106⟩:=qm hF9
  have hq107:=nwq (fun z hz=>Sep.dj (Sep.m2 (Sep.m2 hS102)) qav (SlF.rowfp hv95 z hz))
  refine qf8 (qh3 (fun z hz=>Sep.dj (Sep.m2 (Sep.m2 hS102)) qav (SlF.rowfp hv95 z hz)) qeu) ?_
  refine qaf (f:=cI) hv95 (Sep.m1 hS102) hW (fun _=>rfl) (fun _=>rfl) (yg (fun _=>rfl)) hx105 (fun v108 c109 h110 hv111 hS112=>?_)
  simp only [qde,B0,reduceIte,reduceEqDiff]
  obtain ⟨l114,hx115,hF116⟩:=qm hF106
  have hq117:=nwq (fun z hz=>Sep.dj (Sep.m2 (Sep.m2 hS112)) qav (SlF.rowfp hv101 z hz))
  refine qf8 (qh3 (fun z hz=>Sep.dj (Sep.m2 (Sep.m2 hS112)) qav (SlF.rowfp hv101 z hz)) qeu) ?_
  refine qaf (f:=cI) hv101 (Sep.m1 hS112) hW (fun _=>rfl) (fun _=>rfl) (yg (fun _=>rfl)) hx115 (fun v118 c119 h120 hv121 hS122=>?_)
  simp only [qg2,evp,B0,reduceIte,reduceEqDiff]
  refine zf (v := .agg [v108,v118,.int .i64 (-1),.int .i64 0,.int .i64 0]) (qek (qb0 (us:=[v108]) (vs:=[v108,.nil,.int .i64 0,.int .i64 0,
    .int .i64 0]) (kf (SlF.one hv111)) rfl (nle rfl) (qv (SlF.one hv111) zx) rfl (qb0 (us:=[v118]) (vs:=[v108,v118,.int .i64 0,.int .i64 0,
    .int .i64 0]) (kf (SlF.one hv121)) rfl (nle rfl) (qv (SlF.one hv121) zx) rfl (qb0 (us:=[.int .i64 (-1)]) (vs:=[v108,v118,.int .i64 (-1),.int .i64 0,
    .int .i64 0]) rfl rfl (nle rfl) rfl rfl qf0)))) ?_
  simp only [qbh,evp,B0,reduceIte,reduceEqDiff]
  refine qhn (R:=Partition.R) (n:=5) (cs:=[v108,v118,.int .i64 (-1),.int .i64 0,
    .int .i64 0]) (os:=c109++(c119)) (Sep.bi2 (c1:=c109) (c2:=c119) (Sep.m1 hS122)) (qb0 (us:=[v108,v118,.int .i64 (-1),.int .i64 0,.int .i64 0]) (vs:=[v108,
    v118,.int .i64 (-1),.int .i64 0,.int .i64 0]) rfl rfl (nle rfl) (qv (SlF.one hv111) (qv (SlF.one hv121) (qv rfl (qv rfl (qv rfl zx))))) rfl qf0)
    (Partition.RI (x:=(Partition.mk l104 l114 (-1) 0 0)) hv111 hv121) rfl (fun v124 c125 h126 hv127 hS128=>?_)
  simp only [qqi,B0,reduceIte,reduceEqDiff]
  obtain ⟨l130,hx131,hF132⟩:=qm hF116
  refine qkb (R:=Partition.R) (c:=pc0_1) ph0_1 hv127 (Sep.m3 hS128) hW Partition.RO.len Partition.RO.one hx131 (fun v133 c134 h135 hv136 hS137=>?_)
  simp only [y7,qz,z7,jd,Nat.reduceAdd,Nat.zero_add,Nat.add_zero,zb,qcp,B0,reduceIte,reduceEqDiff]
  refine qbn (us:=[v133]) (kf (SlN.one hv136)) (cs':=[pv0_0,v133,
    .int .i64 v_0.Next]) (Sep.m1 hS137) hW rfl (qv (SlN.one hv136) zx) (nle rfl) rfl (fun h139 hS140=>?_)
  simp only [zp,kj,qf,qe,qh,qa,qx,B0,reduceIte,reduceEqDiff]
  have he:=qj hF132
  subst he
  simp only [qw,B0,reduceIte,reduceEqDiff]
  exact ⟨pc0_0,v133,c134,by first | trivial | rfl,ph0_0,hv136,(Sep.m2 (Sep.m2 (Sep.m1 hS140)))⟩
 rw [iteF hc80] at hF9
 simp only [qss,qf,qe,qs,qb,jb,qh,qa,qr1,qy,B0,reduceIte,reduceEqDiff]
 obtain ⟨s141,hX143,hk144⟩:=qm hF9
 refine qes (t:=(decide (v_1.Kind=5))) (fun fr' h'=>fr' 0 = .ptr pb0 0∧fr' 3 = .ref [.int .i64 v_1.Kind,.int .i64 v_1.Broker,.int .i64 v_1.Epoch,.int .i64 v_1.Part,
   .int .i64 v_1.Stamp,lst cI v_1.InStep] 0∧fr' 5 = .ptr b10 (v_1.Broker.toNat*3)∧fr' 118 = .bool s141∧Sep h' lo ([Blk1 pb0 [pv0_0,pv0_1,
   .int .i64 v_0.Next] 29]++(pc0_0++(pc0_1++(S0))))) (fun Q145 hN146 hR147 hE148=>⟨fun hc149=>?_,fun hc149=>?_⟩) ?_
 ·rw [iteT hc149] at hX143
  simp only [za,qo,B0,reduceIte,reduceEqDiff]
  have e150:=qj hX143
  subst e150
  exact hN146 _ _ ⟨zf0,rfl,rfl,rfl,(Sep.m2 (Sep.m2 (Sep.m2 hS6)))⟩
 ·rw [iteF hc149] at hX143
  simp only [qe,qs,qb,jb,qh,qa,qo,B0,reduceIte,reduceEqDiff]
  have e151:=qj hX143
  subst e151
  exact hN146 _ _ ⟨zf0,rfl,rfl,rfl,(Sep.m2 (Sep.m2 (Sep.m2 hS6)))⟩
 rintro fr152 h153 ⟨f155,f156,f157,f158,hS154⟩
 unfold kr at hk144
 simp only [qs1,f158,qy,B0,reduceIte,reduceEqDiff]
 refine qu (t:=s141) (fun hc159=>?_) (fun hc159=>?_)
 ·rw [iteT hc159] at hk144
  simp only [qr8,qf,jq,f156,jd,qz,Nat.reduceAdd,Nat.zero_add,Nat.add_zero,qq,z8,B0,reduceIte,reduceEqDiff]
  refine zf (v := .int .i64 v_1.Part) rfl ?_
  simp only [f155,jy,qz,y7,z7,jd,Nat.reduceAdd,Nat.zero_add,Nat.add_zero,zb,z8,B0,reduceIte,reduceEqDiff]
  refine zf (v:=pv0_1) ((jk (Sep.bk _ _ _ hS154)).trans rfl) ?_
  simp only [qri,qz,SlN.len ph0_1,qbq,qcr,zp,qy,B0,reduceIte,reduceEqDiff]
  refine qu (t:=(decide ((List.length v_0.Parts:Int)≤v_1.Part))) (fun hc160=>?_) (fun hc160=>?_)
  ·rw [iteT hc160] at hk144
   simp only [qf,qe,qh,qa,qx,B0,reduceIte,reduceEqDiff]
   have he:=qj hk144
   subst he
   simp only [qw,B0,reduceIte,reduceEqDiff]
   exact ⟨pc0_0,pv0_1,pc0_1,by first | trivial | rfl,ph0_0,ph0_1,(Sep.m2 (Sep.m2 (Sep.m2 hS154)))⟩
  rw [iteF hc160] at hk144
  simp only [za,qtz,qf,jq,f155,jy,qz,y7,z7,jd,Nat.reduceAdd,Nat.zero_add,Nat.add_zero,zb,z8,B0,reduceIte,
    reduceEqDiff]
  refine zf (v:=pv0_1) ((jk (Sep.bk _ _ _ hS154)).trans rfl) ?_
  simp only [f156,jd,qz,Nat.reduceAdd,Nat.zero_add,Nat.add_zero,qq,z8,B0,reduceIte,reduceEqDiff]
  refine zf (v := .int .i64 v_1.Part) rfl ?_
  obtain ⟨x161,hx162,hF163⟩:=qm hk144
  simp only [ue,B0,reduceIte,reduceEqDiff]
  obtain ⟨b164,hb165⟩:=SlN.isrow ph0_1 (kz hx162)
  refine zf (SlN.ia ph0_1 hb165 hx162) ?_
  simp only [jy,qz,zp,qry,qf,qe,f156,qn,qb,Nat.reduceAdd,Nat.zero_add,Nat.add_zero,qq,ql,B0,reduceIte,
    reduceEqDiff]
  refine qi (v := .int .i64 v_1.Kind) rfl ?_
  simp only [qs,qb,jb,qa,qo4,qy,B0,reduceIte,reduceEqDiff]
  refine qu (t:=(decide (v_1.Kind=6))) (fun hc166=>?_) (fun hc166=>?_)
  ·rw [iteT hc166] at hF163
   obtain ⟨c167,cs168,os169,hv170,hR171,hS172⟩:=SlG.opn (SlN.toG ph0_1 hb165 Partition.RO.len) hx162 jx Partition.RO.len (Sep.m2 hS154)
   obtain ⟨v174,c175,v178,c179,hv176,hv180,rfl,rfl⟩:=hR171
   have hS173:=Sep.no2 hS172
   simp only [qqq,qf,jq,jy,qz,y7,z7,jd,Nat.reduceAdd,Nat.zero_add,Nat.add_zero,zb,z8,B0,reduceIte,reduceEqDiff]
   refine zf (v:=v178) ((SlG.ld (o:=1) hv170 rfl hx162 hS173 (nle rfl)).trans rfl) ?_
   simp only [f156,jd,qz,Nat.reduceAdd,Nat.zero_add,Nat.add_zero,qq,z8,B0,reduceIte,reduceEqDiff]
   refine zf (v := .int .i64 v_1.Broker) rfl ?_
   obtain ⟨v182,hx183,hF184⟩:=qm hF163
   simp only [kq,B0,reduceIte,reduceEqDiff]
   refine qds rfl (qk (SlF.snap hv180 (Sep.m2 hS173) rfl (fun _=>rfl) (fun _=>rfl)) (qk qp ze)) (y6
     (fun b hb=>decide_eq_true hb) x161.InStep v_1.Broker v182 hx183) ?_
   simp only [qf1,qz,j5,jy,B0,reduceIte,reduceEqDiff]
   refine qio 5 (fun fr' h'=>Sep h' lo (c167++([Blk1 pb0 [pv0_0,pv0_1,
     .int .i64 v_0.Next] 29]++(c175++(c179++(pc0_0++(S0))))))∧fr' 152 = .bool ((!v182)||x7.Fenced)∧fr' 3 = .ref [.int .i64 v_1.Kind,.int .i64 v_1.Broker,
     .int .i64 v_1.Epoch,.int .i64 v_1.Part,.int .i64 v_1.Stamp,lst cI v_1.InStep] 0∧fr' 7 = .ptr b164 (v_1.Part.toNat*5)) rfl (fun Q185 hN186=>?_) ?_
   ·simp only [List.take_succ_cons,List.take_zero]
    simp only [z9 (g:=147),B0,reduceIte,reduceEqDiff]
    refine qa3 (t:=(!v182)) (fun hg187=>?_) (fun hg187=>?_)
    ·simp only [hg187,z9 (g:=147),qbx,u7,qz,zj,zp,qo,B0,reduceIte,reduceEqDiff]
     exact hN186 _ _ ⟨(Sep.m4 (Sep.m4 (Sep.m3 (Sep.m3 (Sep.m4 hS173))))),by rw [orT hg187]; simp only [B0,reduceIte,reduceEqDiff],f156,rfl⟩
    ·simp only [hg187,z9 (g:=147),jo,f157,jy,qz,y7,z7,jd,Nat.reduceAdd,Nat.zero_add,Nat.add_zero,zb,z8,B0,
      reduceIte,reduceEqDiff]
     refine zf (v := .bool x7.Fenced) ((SlF.ld (o:=2) ph0_0 (Sep.m4 hS173) hb11 hx8 (fun _=>rfl) (nle rfl)).trans rfl) ?_
     simp only [hg187,u7,qz,zi,zp,qo,B0,reduceIte,reduceEqDiff]
     exact hN186 _ _ ⟨(Sep.m4 (Sep.m4 (Sep.m3 (Sep.m3 (Sep.m4 hS173))))),by rw [orF hg187]; simp only [B0,reduceIte,reduceEqDiff],f156,rfl⟩
   rintro fr188 h192 ⟨hS193,f189,f190,f191⟩
   simp only [List.drop_succ_cons,List.drop_zero]
   simp only [zp,f189,qy,B0,reduceIte,reduceEqDiff]
   refine qu (t:=((!v182)||x7.Fenced)) (fun hc194=>?_) (fun hc194=>?_)
   ·rw [iteT hc194] at hF184
    simp only [qf,qe,qh,qa,qx,B0,reduceIte,reduceEqDiff]
    obtain ⟨c195,hv196,hS197⟩:=SlG.cls0 (c:=c167) (os:=c175++(c179)) hv170 rfl hx162 jx (Partition.RI (x:=x161) hv176 hv180) (Sep.ni2 (c1:=c175)
      (c2:=c179) (Sep.m2 (Sep.m3 (Sep.m3 hS193))))
    have hv198:=SlG.toN hv196
    have he:=qj hF184
    subst he
    simp only [qw,B0,reduceIte,reduceEqDiff]
    exact ⟨pc0_0,pv0_1,c195,by first | trivial | rfl,ph0_0,hv198,(Sep.m2 (Sep.m2 hS197))⟩
   rw [iteF hc194] at hF184
   simp only [za,qp2,qf,qe,f191,qh,f190,qn,qb,Nat.reduceAdd,Nat.zero_add,Nat.add_zero,qq,ql,B0,reduceIte,reduceEqDiff]
   refine qi (v := .int .i64 v_1.Broker) rfl ?_
   simp only [kt,qb,z7,qn,Nat.reduceAdd,Nat.zero_add,Nat.add_zero,zb,zm,B0,reduceIte,reduceEqDiff]
   refine xd (n:=5) (us:=[.int .i64 v_1.Broker]) (cs:=[v174,v178,.int .i64 x161.Leader,.int .i64 x161.Epoch,.int .i64 x161.Stamp]) (o:=2) (cs':=[v174,
     v178,.int .i64 v_1.Broker,.int .i64 x161.Epoch,.int .i64 x161.Stamp]) rfl hv170 rfl hx162 hS193 hW rfl rfl (nle rfl) rfl (fun c201 h199 hv202 hS200=>?_)
   simp only [qa,qf,qe,qh,qx,B0,reduceIte,reduceEqDiff]
   obtain ⟨c203,hv204,hS205⟩:=SlG.cls (e':=(Partition.mk x161.Homes x161.InStep v_1.Broker x161.Epoch x161.Stamp)) (c:=c201) (os:=c175 ++
     (c179)) hv202 rfl hx162 jx (Partition.RI (x:=(Partition.mk x161.Homes x161.InStep v_1.Broker x161.Epoch x161.Stamp)) hv176 hv180) (Sep.ni2 (c1:=c175)
     (c2:=c179) (Sep.m2 (Sep.m3 (Sep.m3 hS200))))
   have hx206:=j9 (x':=(Partition.mk x161.Homes x161.InStep v_1.Broker x161.Epoch x161.Stamp)) hx162
   have hv207:=SlG.toN hv204
   have he:=qj hF184
   subst he
   simp only [qw,B0,reduceIte,reduceEqDiff]
   exact ⟨pc0_0,pv0_1,c203,by first | trivial | rfl,ph0_0,hv207,(Sep.m2 (Sep.m2 hS205))⟩
  rw [iteF hc166] at hF163
  simp only [za,qo1,qf,qe,f155,qh,f156,ql,B0,reduceIte,reduceEqDiff]
  refine qi (v := .agg [.int .i64 v_1.Kind,.int .i64 v_1.Broker,.int .i64 v_1.Epoch,.int .i64 v_1.Part,.int .i64 v_1.Stamp,lst cI v_1.InStep]) rfl ?_
  simp only [zg,B0,reduceIte,reduceEqDiff]
  refine qau rfl (Ret.of (fn:=x93) rfl (Run.of ?_)) (fun _ _ h=>h)
  have zf208:zd ([.ptr pb0 0,.ptr b164 (v_1.Part.toNat*5),.agg [.int .i64 v_1.Kind,.int .i64 v_1.Broker,.int .i64 v_1.Epoch,.int .i64 v_1.Part,.int .i64 v_1.Stamp,
    lst cI v_1.InStep]]++[]) 0 = .ptr pb0 0:=rfl
  have zf209:zd ([.ptr pb0 0,.ptr b164 (v_1.Part.toNat*5),.agg [.int .i64 v_1.Kind,.int .i64 v_1.Broker,.int .i64 v_1.Epoch,.int .i64 v_1.Part,.int .i64 v_1.Stamp,
    lst cI v_1.InStep]]++[]) 1 = .ptr b164 (v_1.Part.toNat*5):=rfl
  have zf210:zd ([.ptr pb0 0,.ptr b164 (v_1.Part.toNat*5),.agg [.int .i64 v_1.Kind,.int .i64 v_1.Broker,.int .i64 v_1.Epoch,.int .i64 v_1.Part,.int .i64 v_1.Stamp,
    lst cI v_1.InStep]]++[]) 2 = .agg [.int .i64 v_1.Kind,.int .i64 v_1.Broker,.int .i64 v_1.Epoch,.int .i64 v_1.Part,.int .i64 v_1.Stamp,lst cI v_1.InStep]:=rfl
  generalize zd ([.ptr pb0 0,.ptr b164 (v_1.Part.toNat*5),.agg [.int .i64 v_1.Kind,.int .i64 v_1.Broker,.int .i64 v_1.Epoch,.int .i64 v_1.Part,.int .i64 v_1.Stamp,
    lst cI v_1.InStep]]++[])=fr211 at zf208 zf209 zf210 ⊢
  simp only [x93,qf,qe,ja,zf208,B0,reduceIte,reduceEqDiff]
  refine z0 (cs:=[.ptr pb0 0]) hS154 rfl rfl rfl (fun b212 h213 hS214=>?_)
  simp only [ja,zf209,B0,reduceIte,reduceEqDiff]
  refine z0 (cs:=[.ptr b164 (v_1.Part.toNat*5)]) hS214 rfl rfl rfl (fun b216 h217 hS218=>?_)
  simp only [ja,zf210,B0,reduceIte,reduceEqDiff]
  refine z0 (cs:=[.int .i64 v_1.Kind,.int .i64 v_1.Broker,.int .i64 v_1.Epoch,.int .i64 v_1.Part,.int .i64 v_1.Stamp,
    lst cI v_1.InStep]) hS218 rfl rfl rfl (fun b220 h221 hS222=>?_)
  simp only [qh,qa,B0,reduceIte,reduceEqDiff]
  refine zn (Sep.m2 hS222) hW (by simp only [B0,reduceIte,reduceEqDiff]) (fun h224 hS225=>?_)
  refine zn (Sep.m1 hS225) hW (by simp only [B0,reduceIte,reduceEqDiff]) (fun h226 hS227=>?_)
  refine zn hS227 hW (by simp only [B0,reduceIte,reduceEqDiff]) (fun h228 hS229=>?_)
  simp only [zo,qt7,qf,ka,q3p,jq,jd,qz,Nat.reduceAdd,Nat.zero_add,Nat.add_zero,qq,z8,B0,reduceIte,reduceEqDiff]
  refine zf (v := .int .i64 v_1.Epoch) rfl ?_
  simp only [z8,B0,reduceIte,reduceEqDiff]
  refine zf (v := .ptr b164 (v_1.Part.toNat*5)) rfl ?_
  obtain ⟨c230,cs231,os232,hv233,hR234,hS235⟩:=SlG.opn (SlN.toG ph0_1 hb165 Partition.RO.len) hx162 jx Partition.RO.len (Sep.m2 hS229)
  obtain ⟨v237,c238,v241,c242,hv239,hv243,rfl,rfl⟩:=hR234
  have hS236:=Sep.no2 hS235
  simp only [y7,qz,z7,jd,Nat.reduceAdd,Nat.zero_add,Nat.add_zero,zb,z8,B0,reduceIte,reduceEqDiff]
  refine zf (v := .int .i64 x161.Epoch) ((SlG.ld (o:=3) hv233 rfl hx162 hS236 (nle rfl)).trans rfl) ?_
  simp only [qbq,qz,kh,jy,zp,qvr,qy,B0,reduceIte,reduceEqDiff]
  refine qu (t:=(decide (v_1.Epoch≠x161.Epoch))) (fun hc245=>?_) (fun hc245=>?_)
  ·rw [iteT hc245] at hF163
   simp only [qf,qe,qh,qa,qx,B0,reduceIte,reduceEqDiff]
   simp only [qw,B0,reduceIte,reduceEqDiff]
   simp only [qh,qa,qx,B0,reduceIte,reduceEqDiff]
   obtain ⟨c246,hv247,hS248⟩:=SlG.cls0 (c:=c230) (os:=c238++(c242)) hv233 rfl hx162 jx (Partition.RI (x:=x161) hv239 hv243) (Sep.ni2 (c1:=c238) (c2:=c242)
     (Sep.m2 (Sep.m2 (Sep.m2 hS236))))
   have hv249:=SlG.toN hv247
   have he:=qj hF163
   subst he
   simp only [qw,B0,reduceIte,reduceEqDiff]
   exact ⟨pc0_0,pv0_1,c246,by first | trivial | rfl,ph0_0,hv249,(Sep.m2 (Sep.m2 hS248))⟩
  rw [iteF hc245] at hF163
  simp only [q4g,qf,jq,jd,qz,Nat.reduceAdd,Nat.zero_add,Nat.add_zero,qq,z8,B0,reduceIte,reduceEqDiff]
  refine zf (v := .int .i64 v_1.Broker) rfl ?_
  simp only [z8,B0,reduceIte,reduceEqDiff]
  refine zf (v := .ptr b164 (v_1.Part.toNat*5)) rfl ?_
  simp only [y7,qz,z7,jd,Nat.reduceAdd,Nat.zero_add,Nat.add_zero,zb,z8,B0,reduceIte,reduceEqDiff]
  refine zf (v := .int .i64 x161.Leader) ((SlG.ld (o:=2) hv233 rfl hx162 hS236 (nle rfl)).trans rfl) ?_
  simp only [qbq,qz,kh,jy,zp,qy9,qy,B0,reduceIte,reduceEqDiff]
  refine qu (t:=(decide (v_1.Broker≠x161.Leader))) (fun hc250=>?_) (fun hc250=>?_)
  ·rw [iteT hc250] at hF163
   simp only [qf,qe,qh,qa,qx,B0,reduceIte,reduceEqDiff]
   simp only [qw,B0,reduceIte,reduceEqDiff]
   simp only [qh,qa,qx,B0,reduceIte,reduceEqDiff]
   obtain ⟨c251,hv252,hS253⟩:=SlG.cls0 (c:=c230) (os:=c238++(c242)) hv233 rfl hx162 jx (Partition.RI (x:=x161) hv239 hv243) (Sep.ni2 (c1:=c238) (c2:=c242)
     (Sep.m2 (Sep.m2 (Sep.m2 hS236))))
   have hv254:=SlG.toN hv252
   have he:=qj hF163
   subst he
   simp only [qw,B0,reduceIte,reduceEqDiff]
   exact ⟨pc0_0,pv0_1,c251,by first | trivial | rfl,ph0_0,hv254,(Sep.m2 (Sep.m2 hS253))⟩
  rw [iteF hc250] at hF163
  simp only [q1j,qf,jq,jd,qz,Nat.reduceAdd,Nat.zero_add,Nat.add_zero,qq,z8,B0,reduceIte,reduceEqDiff]
  refine zf (v := .int .i64 v_1.Stamp) rfl ?_
  simp only [z8,B0,reduceIte,reduceEqDiff]
  refine zf (v := .ptr b164 (v_1.Part.toNat*5)) rfl ?_
  simp only [y7,qz,z7,jd,Nat.reduceAdd,Nat.zero_add,Nat.add_zero,zb,z8,B0,reduceIte,reduceEqDiff]
  refine zf (v := .int .i64 x161.Stamp) ((SlG.ld (o:=4) hv233 rfl hx162 hS236 (nle rfl)).trans rfl) ?_
  simp only [qbq,qz,kh,jy,zp,qy,B0,reduceIte,reduceEqDiff]
  refine qu (t:=(decide (v_1.Stamp≠x161.Stamp))) (fun hc255=>?_) (fun hc255=>?_)
  ·rw [iteT hc255] at hF163
   simp only [qf,qe,qh,qa,qx,B0,reduceIte,reduceEqDiff]
   simp only [qw,B0,reduceIte,reduceEqDiff]
   simp only [qh,qa,qx,B0,reduceIte,reduceEqDiff]
   obtain ⟨c256,hv257,hS258⟩:=SlG.cls0 (c:=c230) (os:=c238++(c242)) hv233 rfl hx162 jx (Partition.RI (x:=x161) hv239 hv243) (Sep.ni2 (c1:=c238) (c2:=c242)
     (Sep.m2 (Sep.m2 (Sep.m2 hS236))))
   have hv259:=SlG.toN hv257
   have he:=qj hF163
   subst he
   simp only [qw,B0,reduceIte,reduceEqDiff]
   exact ⟨pc0_0,pv0_1,c256,by first | trivial | rfl,ph0_0,hv259,(Sep.m2 (Sep.m2 hS258))⟩
  rw [iteF hc255] at hF163
  simp only [za,kj,q3j,qf,qe,qn,qb,Nat.reduceAdd,Nat.zero_add,Nat.add_zero,qq,ql,B0,reduceIte,reduceEqDiff]
  refine qi (v:=lst cI v_1.InStep) rfl ?_
  obtain ⟨c260,hv261,hS262⟩:=SlG.cls0 (c:=c230) (os:=c238++(c242)) hv233 rfl hx162 jx (Partition.RI (x:=x161) hv239 hv243) (Sep.ni2 (c1:=c238) (c2:=c242)
    (Sep.m2 (Sep.m2 (Sep.m2 hS236))))
  have hv263:=SlG.toN hv261
  simp only [qn6,zg,B0,reduceIte,reduceEqDiff]
  refine qau rfl (Ret.of (fn:=x94) rfl (Run.of ?_)) (fun _ _ h=>h)
  have zf264:zd ([lst cI v_1.InStep,.fn 97 [.ref [.ptr pb0 0] 0,.ref [.ptr b164 (v_1.Part.toNat*5)] 0]]++[]) 0=lst cI v_1.InStep:=rfl
  have zf265:zd ([lst cI v_1.InStep,.fn 97 [.ref [.ptr pb0 0] 0,.ref [.ptr b164 (v_1.Part.toNat*5)] 0]]++[]) 1 = .fn 97 [.ref [.ptr pb0 0] 0,
    .ref [.ptr b164 (v_1.Part.toNat*5)] 0]:=rfl
  generalize zd ([lst cI v_1.InStep,.fn 97 [.ref [.ptr pb0 0] 0,.ref [.ptr b164 (v_1.Part.toNat*5)] 0]]++[])=fr266 at zf264 zf265 ⊢
  simp only [x94,qf,qe,qh,qa,qoe,zf264,zf265,zg,B0,reduceIte,reduceEqDiff]
  obtain ⟨v267,hx268,hF269⟩:=qm hF163
  refine qau rfl (R:=(fun u h'=>∃ c270,u = .int .i64 v267∧SlN Partition.R 5 39 pv0_1 v_0.Parts c270∧Sep h' lo (c270++([Blk1 pb0 [pv0_0,pv0_1,
    .int .i64 v_0.Next] 29]++(pc0_0++(S0)))))) (Ret.of (fn:=x98) rfl (Run.of ?_)) ?_
  ·have zf271:zd ([lst cI v_1.InStep,.fn 97 [.ref [.ptr pb0 0] 0,.ref [.ptr b164 (v_1.Part.toNat*5)] 0]]++[]) 0=lst cI v_1.InStep:=rfl
   have zf272:zd ([lst cI v_1.InStep,.fn 97 [.ref [.ptr pb0 0] 0,.ref [.ptr b164 (v_1.Part.toNat*5)] 0]]++[]) 1 = .fn 97 [.ref [.ptr pb0 0] 0,
     .ref [.ptr b164 (v_1.Part.toNat*5)] 0]:=rfl
   generalize zd ([lst cI v_1.InStep,.fn 97 [.ref [.ptr pb0 0] 0,.ref [.ptr b164 (v_1.Part.toNat*5)] 0]]++[])=fr273 at zf271 zf272 ⊢
   simp only [x98,qf,qe,qh,qa,qod,zf271,zq,qb,zw,B0,reduceIte,reduceEqDiff]
   obtain ⟨oc276,hX278,hk279⟩:=jl hx268
   simp only [qou]
   refine yf (σ:=Unit) v_1.InStep (fun i274 x275 _=>yd v_0 x161 i274 x275 )
     (fun s fr' h'=>fr' 0=lst cI v_1.InStep∧fr' 1 = .fn 97 [.ref [.ptr pb0 0] 0,.ref [.ptr b164 (v_1.Part.toNat*5)] 0]∧Sep h' lo ([Blk1 pb0 [pv0_0,pv0_1,
     .int .i64 v_0.Next] 29]++(c260++(pc0_0++(S0))))) hX278 ⟨zf271,zf272,(Sep.m2 (Sep.m1 (Sep.m2 hS262)))⟩ (by simp only [B0,reduceIte,
     reduceEqDiff]) (by simp only [B0,reduceIte,reduceEqDiff]) (fun _ _ _ h=>h) rfl rfl (fun _ _ _ _ h=>h) (fun _ _ _ _ h=>h) (fun _ _ _ _ h=>h) (by decide) ?_ ?_
   ·rintro i274 x275 _ fr288 h289 hx293 ⟨f291,f292,hS290⟩ f294 f295 oc277 hF280 hr281 Q282 hN283 hB287 hK284 hR285 hE286
    unfold yd at hF280
    simp only [qoq,qf,qe,f294,qh,qa,qn7,f292,f291,z1,B0,reduceIte,reduceEqDiff]
    refine qi (v := .ref (cI x275) 0) (ye hx293 rfl) ?_
    simp only [ql,B0,reduceIte,reduceEqDiff]
    refine qi (v := .int .i64 x275) rfl ?_
    simp only [zg,B0,reduceIte,reduceEqDiff]
    refine qau rfl (Ret.of (fn:=x97) rfl (Run.of ?_)) (fun _ _ h=>h)
    have zf296:zd ([.int .i64 x275]++[.ref [.ptr pb0 0] 0,.ref [.ptr b164 (v_1.Part.toNat*5)] 0]) 0 = .int .i64 x275:=rfl
    have zf297:zd ([.int .i64 x275]++[.ref [.ptr pb0 0] 0,.ref [.ptr b164 (v_1.Part.toNat*5)] 0]) 1 = .ref [.ptr pb0 0] 0:=rfl
    have zf298:zd ([.int .i64 x275]++[.ref [.ptr pb0 0] 0,.ref [.ptr b164 (v_1.Part.toNat*5)] 0]) 2 = .ref [.ptr b164 (v_1.Part.toNat*5)] 0:=rfl
    generalize zd ([.int .i64 x275]++[.ref [.ptr pb0 0] 0,.ref [.ptr b164 (v_1.Part.toNat*5)] 0])=fr299 at zf296 zf297 zf298 ⊢
    simp only [x97,qf,qe,qh,qa,q1u,zf297,ql,B0,reduceIte,reduceEqDiff]
    refine qi (v := .ptr pb0 0) rfl ?_
    simp only [kt,qb,z7,qn,Nat.reduceAdd,Nat.zero_add,Nat.add_zero,zb,ql,B0,reduceIte,reduceEqDiff]
    refine qi (v:=pv0_0) ((jk (Sep.bk _ _ _ hS290)).trans rfl) ?_
    obtain ⟨x300,hx301,hF302⟩:=qm hF280
    simp only [zf296,qh,z1,B0,reduceIte,reduceEqDiff]
    refine qi (SlF.ia ph0_0 hb11 hx301) ?_
    simp only [qn,qb,Nat.reduceAdd,Nat.zero_add,Nat.add_zero,zb,ql,B0,reduceIte,reduceEqDiff]
    refine qi (v := .bool x300.Fenced) ((SlF.ld (o:=2) ph0_0 (Sep.m2 hS290) hb11 hx301 (fun _=>rfl) (nle rfl)).trans rfl) ?_
    simp only [qh,B0,reduceIte,reduceEqDiff]
    obtain ⟨v306,hx307,hF308⟩:=qm hF302
    refine zt 8 (fun fr' h'=>Sep h' lo ([Blk1 pb0 [pv0_0,pv0_1,.int .i64 v_0.Next] 29]++(c260++(pc0_0++(S0))))∧fr' 21 = .bool v306) (fun Q303 hN304=>?_) ?_
    ·simp only [List.take_succ_cons,List.take_zero]
     simp only [qc (g:=13),B0,reduceIte,reduceEqDiff]
     refine q9 (t:=x300.Fenced) (fun hg305=>?_) (fun hg305=>?_)
     ·rw [iteT hg305] at hx307
      simp only [hg305,qc (g:=13),q8,zf298,ql,B0,reduceIte,reduceEqDiff]
      refine qi (v := .ptr b164 (v_1.Part.toNat*5)) rfl ?_
      obtain ⟨c309,cs310,os311,hv312,hR313,hS314⟩:=SlG.opn (SlN.toG hv263 hb165 Partition.RO.len) hx162 jx Partition.RO.len (Sep.m1 hS290)
      obtain ⟨v316,c317,v320,c321,hv318,hv322,rfl,rfl⟩:=hR313
      have hS315:=Sep.no2 hS314
      simp only [hg305,qc (g:=13),q8,kt,qb,z7,qn,Nat.reduceAdd,Nat.zero_add,Nat.add_zero,zb,ql,B0,reduceIte,
        reduceEqDiff]
      refine qi (v:=v320) ((SlG.ld (o:=1) hv312 rfl hx162 hS315 (nle rfl)).trans rfl) ?_
      obtain ⟨v324,hx325,hF326⟩:=qm hx307
      simp only [hg305,qc (g:=13),q8,zf296,qh,zg,B0,reduceIte,reduceEqDiff]
      refine z5 rfl (qk (SlF.snap hv322 (Sep.m2 hS315) rfl (fun _=>rfl) (fun _=>rfl)) (qk qp ze)) (y6
        (fun b hb=>decide_eq_true hb) x161.InStep x275 v324 hx325) ?_
      simp only [hg305,qc (g:=13),q8,ji,qb,j5,qr,zj,qa,qo,B0,reduceIte,reduceEqDiff]
      have e327:=qj hF326
      exact hN304 _ _ ⟨(Sep.m2 (Sep.m2 (Sep.m2 hS290))),by rw [←e327]; simp only [B0,reduceIte,reduceEqDiff]⟩
     ·rw [iteF hg305] at hx307
      simp only [hg305,qc (g:=13),zz,qr,qb,zi,qa,qo,B0,reduceIte,reduceEqDiff]
      have e328:=qj hx307
      exact hN304 _ _ ⟨(Sep.m2 (Sep.m2 (Sep.m2 hS290))),by rw [←e328]; simp only [B0,reduceIte,reduceEqDiff]⟩
    rintro fr329 h331 ⟨hS332,f330⟩
    simp only [List.drop_succ_cons,List.drop_zero]
    simp only [f330,qh,qa,qx,B0,reduceIte,reduceEqDiff]
    simp only [qw,B0,reduceIte,reduceEqDiff]
    simp only [qa,qn9,qy,B0,reduceIte,reduceEqDiff]
    refine qu (t:=v306) (fun hc333=>?_) (fun hc333=>?_)
    ·rw [iteT hc333] at hF308
     simp only [qf,qe,qh,qa,qx,B0,reduceIte,reduceEqDiff]
     have e334:=qj hF308
     subst e334
     have ho335:=hr281 _ rfl
     have hk336:=hk279
     rw [ho335] at hk336
     dsimp only [jnO] at hk336
     apply hR285
     have he:=qj hk336
     subst he
     simp only [qw,B0,reduceIte,reduceEqDiff]
     exact ⟨c260,by first | trivial | rfl,hv263,(Sep.m2 (Sep.m1 (Sep.m2 hS332)))⟩
    rw [iteF hc333] at hF308
    simp only [za,qo,B0,reduceIte,reduceEqDiff]
    have e337:=qj hF308
    exact hN283 _ _ _ e337.symm ⟨f291,f292,(Sep.m2 (Sep.m2 (Sep.m2 hS332)))⟩ (f294) (f295)
   rintro _ fr339 h340 rfl ⟨f342,f343,hS341⟩
   dsimp only [jnO] at hk279
   unfold qai at hk279
   simp only [qf,qe,qh,qa,qx,B0,reduceIte,reduceEqDiff]
   have he:=qj hk279
   subst he
   simp only [qw,B0,reduceIte,reduceEqDiff]
   exact ⟨c260,by first | trivial | rfl,hv263,(Sep.m2 (Sep.m1 (Sep.m2 hS341)))⟩
  rintro _ h345 ⟨c270,rfl,hv347,hS346⟩
  simp only [qs,qb,qcr,qh,qa,qx,B0,reduceIte,reduceEqDiff]
  simp only [qw,B0,reduceIte,reduceEqDiff]
  simp only [qh,qa,q1x,qf,jq,jd,qz,Nat.reduceAdd,Nat.zero_add,Nat.add_zero,qq,z8,B0,reduceIte,reduceEqDiff]
  refine zf (v:=lst cI v_1.InStep) rfl ?_
  simp only [z8,B0,reduceIte,reduceEqDiff]
  refine zf (v := .ptr b164 (v_1.Part.toNat*5)) rfl ?_
  obtain ⟨c348,cs349,os350,hv351,hR352,hS353⟩:=SlG.opn (SlN.toG hv347 hb165 Partition.RO.len) hx162 jx Partition.RO.len hS346
  obtain ⟨v355,c356,v359,c360,hv357,hv361,rfl,rfl⟩:=hR352
  have hS354:=Sep.no2 hS353
  simp only [y7,qz,z7,jd,Nat.reduceAdd,Nat.zero_add,Nat.add_zero,zb,z8,B0,reduceIte,reduceEqDiff]
  refine zf (v:=v355) ((SlG.ld (o:=0) hv351 rfl hx162 hS354 (nle rfl)).trans rfl) ?_
  obtain ⟨v363,hx364,hF365⟩:=qm hF269
  simp only [kq,B0,reduceIte,reduceEqDiff]
  refine qds rfl (qk zh (qk (SlF.snap hv357 (Sep.m1 hS354) rfl (fun _=>rfl) (fun _=>rfl)) ze)) (qih
    (fun b hb=>decide_eq_true hb) v_1.InStep x161.Homes v363 hx364) ?_
  simp only [qf1,qz,j5,jy,B0,reduceIte,reduceEqDiff]
  simp only [z9 (g:=44),B0,reduceIte,reduceEqDiff]
  refine qa3 (t:=(!v363)) (fun hg366=>?_) (fun hg366=>?_)
  ·rw [iteT hg366] at hF365
   simp only [hg366,z9 (g:=44),qbx,u7,qz,zj,jy,z9 (g:=54),zp,qy,qqa,qf,qe,qh,
     qa,qx,B0,reduceIte,reduceEqDiff]
   simp only [qw,B0,reduceIte,reduceEqDiff]
   simp only [qh,qa,qx,B0,reduceIte,reduceEqDiff]
   obtain ⟨c367,hv368,hS369⟩:=SlG.cls0 (c:=c348) (os:=c356++(c360)) hv351 rfl hx162 jx (Partition.RI (x:=x161) hv357 hv361) (Sep.ni2 (c1:=c356) (c2:=c360)
     (Sep.m2 (Sep.m2 (Sep.m2 hS354))))
   have hv370:=SlG.toN hv368
   have he:=qj hF365
   subst he
   simp only [qw,B0,reduceIte,reduceEqDiff]
   exact ⟨pc0_0,pv0_1,c367,by first | trivial | rfl,ph0_0,hv370,(Sep.m2 (Sep.m2 hS369))⟩
  rw [iteF hg366] at hF365
  simp only [hg366,z9 (g:=44),jo,jd,qz,Nat.reduceAdd,Nat.zero_add,Nat.add_zero,qq,z8,B0,reduceIte,reduceEqDiff]
  refine zf (v:=lst cI v_1.InStep) rfl ?_
  simp only [hg366,z9 (g:=44),jo,z8,B0,reduceIte,reduceEqDiff]
  refine zf (v := .ptr b164 (v_1.Part.toNat*5)) rfl ?_
  simp only [hg366,z9 (g:=44),jo,y7,qz,z7,jd,Nat.reduceAdd,Nat.zero_add,Nat.add_zero,zb,z8,B0,reduceIte,
    reduceEqDiff]
  refine zf (v := .int .i64 x161.Leader) ((SlG.ld (o:=2) hv351 rfl hx162 hS354 (nle rfl)).trans rfl) ?_
  obtain ⟨v371,hx372,hF373⟩:=qm hF365
  simp only [hg366,z9 (g:=44),jo,kq,B0,reduceIte,reduceEqDiff]
  refine qds rfl (qk zh (qk qp ze)) (y6 (fun b hb=>decide_eq_true hb) v_1.InStep x161.Leader v371 hx372) ?_
  simp only [hg366,z9 (g:=44),jo,qf1,qz,j5,u7,zi,jy,B0,reduceIte,reduceEqDiff]
  refine qio 2 (fun fr' h'=>Sep h' lo (c348++([Blk1 pb0 [pv0_0,pv0_1,
    .int .i64 v_0.Next] 29]++(c356++(c360++(pc0_0++(S0))))))∧fr' 56 = .bool ((!v371)||(decide ((0:Int)≤v267)))∧fr' 4 = .ref [.ptr b164
    (v_1.Part.toNat*5)] 0∧fr' 5 = .ref [.int .i64 v_1.Kind,.int .i64 v_1.Broker,.int .i64 v_1.Epoch,.int .i64 v_1.Part,.int .i64 v_1.Stamp,
    lst cI v_1.InStep] 0) rfl (fun Q374 hN375=>?_) ?_
  ·simp only [List.take_succ_cons,List.take_zero]
   simp only [z9 (g:=54),B0,reduceIte,reduceEqDiff]
   refine qa3 (t:=(!v371)) (fun hg376=>?_) (fun hg376=>?_)
   ·simp only [hg376,z9 (g:=54),qbx,u7,qz,zj,zp,qo,B0,reduceIte,reduceEqDiff]
    exact hN375 _ _ ⟨(Sep.m4 (Sep.m4 (Sep.m3 (Sep.m3 (Sep.m4 hS354))))),by rw [orT hg376]; simp only [B0,reduceIte,reduceEqDiff],rfl,rfl⟩
   ·simp only [hg376,z9 (g:=54),jo,jy,qz,u7,zi,zp,qo,B0,reduceIte,reduceEqDiff]
    exact hN375 _ _ ⟨(Sep.m4 (Sep.m4 (Sep.m3 (Sep.m3 (Sep.m4 hS354))))),by rw [orF hg376]; simp only [B0,reduceIte,reduceEqDiff],rfl,rfl⟩
  rintro fr377 h381 ⟨hS382,f378,f379,f380⟩
  simp only [List.drop_succ_cons,List.drop_zero]
  simp only [zp,f378,qy,B0,reduceIte,reduceEqDiff]
  refine qu (t:=((!v371)||(decide ((0:Int)≤v267)))) (fun hc383=>?_) (fun hc383=>?_)
  ·rw [iteT hc383] at hF373
   simp only [qf,qe,qh,qa,qx,B0,reduceIte,reduceEqDiff]
   simp only [qw,B0,reduceIte,reduceEqDiff]
   simp only [qh,qa,qx,B0,reduceIte,reduceEqDiff]
   obtain ⟨c384,hv385,hS386⟩:=SlG.cls0 (c:=c348) (os:=c356++(c360)) hv351 rfl hx162 jx (Partition.RI (x:=x161) hv357 hv361) (Sep.ni2 (c1:=c356) (c2:=c360)
     (Sep.m2 (Sep.m3 (Sep.m3 hS382))))
   have hv387:=SlG.toN hv385
   have he:=qj hF373
   subst he
   simp only [qw,B0,reduceIte,reduceEqDiff]
   exact ⟨pc0_0,pv0_1,c384,by first | trivial | rfl,ph0_0,hv387,(Sep.m2 (Sep.m2 hS386))⟩
  rw [iteF hc383] at hF373
  simp only [za,qzq,qf,jq,f379,qb2,qa2,B0,reduceIte,reduceEqDiff]
  refine zf (v := .ptr b164 (v_1.Part.toNat*5)) rfl ?_
  simp only [qbh,evp,B0,reduceIte,reduceEqDiff]
  refine uk (n:=1) (f:=cI) ([] : List Int) hS382 rfl rfl (fun v389 c390 h391 hv392 hS393 hq388=>?_)
  simp only [f380,jd,qz,Nat.reduceAdd,Nat.zero_add,Nat.add_zero,qq,z8,B0,reduceIte,reduceEqDiff]
  refine zf (v:=lst cI v_1.InStep) rfl ?_
  simp only [qde,B0,reduceIte,reduceEqDiff]
  obtain ⟨l395,hx396,hF397⟩:=qm hF373
  have hq398:=nwq (fun z hz=>Sep.dj (Sep.m1 (Sep.m2 hS393)) qav (SlF.rowfp hv392 z hz))
  refine qf8 qeu ?_
  refine qaf (f:=cI) hv392 hS393 hW (fun _=>rfl) (fun _=>rfl) (yg (fun _=>rfl)) hx396 (fun v399 c400 h401 hv402 hS403=>?_)
  simp only [y7,qz,z7,jd,Nat.reduceAdd,Nat.zero_add,Nat.add_zero,zb,qcp,B0,reduceIte,reduceEqDiff]
  refine qg7 (n:=5) (us:=[v399]) (cs:=[v355,v359,.int .i64 x161.Leader,.int .i64 x161.Epoch,.int .i64 x161.Stamp]) (o:=1) (cs':=[v355,v399,
    .int .i64 x161.Leader,.int .i64 x161.Epoch,
    .int .i64 x161.Stamp]) (kf (SlF.one hv402)) hv351 rfl hx162 (Sep.m1 hS403) hW rfl (qv (SlF.one hv402) zx) (nle rfl) rfl (fun c407 h405 hv408 hS406=>?_)
  simp only [zp,q13,qf,qe,f379,ql,B0,reduceIte,reduceEqDiff]
  refine qi (v := .ptr b164 (v_1.Part.toNat*5)) rfl ?_
  simp only [kt,qb,z7,qn,Nat.reduceAdd,Nat.zero_add,Nat.add_zero,zb,ql,B0,reduceIte,reduceEqDiff]
  refine qi (v := .int .i64 x161.Stamp) ((SlG.ld (o:=4) hv408 rfl hx162 hS406 (nle rfl)).trans rfl) ?_
  simp only [qs,qb,yv,kt,z7,qn,Nat.reduceAdd,Nat.zero_add,Nat.add_zero,zb,zm,B0,reduceIte,reduceEqDiff]
  refine xd (n:=5) (us:=[.int .i64 (IntKind.wrap .i64 (x161.Stamp+1))]) (cs:=[v355,v399,.int .i64 x161.Leader,.int .i64 x161.Epoch,
    .int .i64 x161.Stamp]) (o:=4) (cs':=[v355,v399,.int .i64 x161.Leader,.int .i64 x161.Epoch,
    .int .i64 (IntKind.wrap .i64 (x161.Stamp+1))]) rfl hv408 rfl hx162 hS406 hW rfl rfl (nle rfl) rfl (fun c411 h409 hv412 hS410=>?_)
  simp only [qa,qf,qe,qh,qx,B0,reduceIte,reduceEqDiff]
  simp only [qw,B0,reduceIte,reduceEqDiff]
  simp only [qh,qa,qx,B0,reduceIte,reduceEqDiff]
  obtain ⟨c413,hv414,hS415⟩:=SlG.cls (e':=(Partition.mk x161.Homes l395 x161.Leader x161.Epoch (IntKind.wrap .i64 (x161.Stamp+1)))) (c:=c411) (os:=c356 ++
    (c400)) hv412 rfl hx162 jx (Partition.RI (x:=(Partition.mk x161.Homes l395 x161.Leader x161.Epoch (IntKind.wrap .i64 (x161.Stamp+1)))) hv357 hv402) (Sep.ni2
    (c1:=c356) (c2:=c400) (Sep.m2 (Sep.m3 (Sep.m1 hS410))))
  have hx416:=j9 (x':=(Partition.mk x161.Homes l395 x161.Leader x161.Epoch (IntKind.wrap .i64 (x161.Stamp+1)))) hx162
  have hv417:=SlG.toN hv414
  have he:=qj hF397
  subst he
  simp only [qw,B0,reduceIte,reduceEqDiff]
  exact ⟨pc0_0,pv0_1,c413,by first | trivial | rfl,ph0_0,hv417,(Sep.m2 (Sep.m2 (Sep.dc (Sep.m2 hS415))))⟩
 rw [iteF hc159] at hk144
 simp only [za,kj,qf,qe,qh,qa,qx,B0,reduceIte,reduceEqDiff]
 have he:=qj hk144
 subst he
 simp only [qw,B0,reduceIte,reduceEqDiff]
 exact ⟨pc0_0,pv0_1,pc0_1,by first | trivial | rfl,ph0_0,ph0_1,(Sep.m2 (Sep.m2 (Sep.m2 hS154)))⟩
theorem qb7 {W:Nat→Bool}{h:Heap} (hW:∀ b,
  (geL h.length) b→W b=true) (c_0:Control) (list_1:List Int) (r:Int)
  (hF:yp c_0 list_1=some r) : Ret E W 78 [.agg [lst qg c_0.Brokers,lst qd c_0.Parts,.int .i64 c_0.Next],
  lst cI list_1] h (fun v h'=>cut h.length h' E.sz false 9 v=some (.int .i64 r)):=by
 refine Ret.of (fn:=x78) rfl (Run.of ?_)
 unfold yp at hF
 have zf0:zd [.agg [lst qg c_0.Brokers,lst qd c_0.Parts,.int .i64 c_0.Next],lst cI list_1] 0 = .agg [lst qg c_0.Brokers,
   lst qd c_0.Parts,.int .i64 c_0.Next]:=rfl
 have zf1:zd [.agg [lst qg c_0.Brokers,lst qd c_0.Parts,.int .i64 c_0.Next],lst cI list_1] 1=lst cI list_1:=rfl
 generalize zd [.agg [lst qg c_0.Brokers,lst qd c_0.Parts,.int .i64 c_0.Next],lst cI list_1]=fr0 at zf0 zf1 ⊢
 have hS:Sep h (geL h.length) []:=Sep.nil h
 simp only [x78,qf,qe,ja,zf0,B0,reduceIte,reduceEqDiff]
 refine z0 (cs:=[lst qg c_0.Brokers,lst qd c_0.Parts,.int .i64 c_0.Next]) hS rfl rfl rfl (fun b1 h2 hS3=>?_)
 simp only [qh,qa,B0,reduceIte,reduceEqDiff]
 refine zn hS3 hW (by simp only [B0,reduceIte,reduceEqDiff]) (fun h5 hS6=>?_)
 simp only [zo,qyo,qf,qe,zf1,qh,zq,qb,zw,qa,B0,reduceIte,reduceEqDiff]
 obtain ⟨oc9,hX11,hk12⟩:=jl hF
 simp only [qxj]
 refine yf (σ:=Unit) list_1 (fun i7 x8 _=>ud c_0 i7 x8 ) (fun s fr' h'=>fr' 2 = .ref [lst qg c_0.Brokers,
   lst qd c_0.Parts,.int .i64 c_0.Next] 0∧fr' 7=lst cI list_1∧Sep h' (geL h.length) ([])) hX11 ⟨rfl,rfl,hS6⟩ (by simp only [B0,reduceIte,
   reduceEqDiff]) (by simp only [B0,reduceIte,reduceEqDiff]) (fun _ _ _ h=>h) rfl rfl (fun _ _ _ _ h=>h) (fun _ _ _ _ h=>h) (fun _ _ _ _ h=>h) (by decide) ?_ ?_
 ·rintro i7 x8 _ fr21 h22 hx26 ⟨f24,f25,hS23⟩ f27 f28 oc10 hF13 hr14 Q15 hN16 hB20 hK17 hR18 hE19
  unfold ud at hF13
  simp only [q38,qf,qe,f25,f27,z1,B0,reduceIte,reduceEqDiff]
  refine qi (v := .ref (cI x8) 0) (ye hx26 rfl) ?_
  simp only [ql,B0,reduceIte,reduceEqDiff]
  refine qi (v := .int .i64 x8) rfl ?_
  simp only [qh,qa,q0r,qf,qe,f24,qn,qb,Nat.reduceAdd,Nat.zero_add,Nat.add_zero,qq,ql,B0,reduceIte,reduceEqDiff]
  refine qi (v:=lst qg c_0.Brokers) rfl ?_
  obtain ⟨x29,hx30,hF31⟩:=qm hF13
  simp only [qh,z1,B0,reduceIte,reduceEqDiff]
  refine qi (v := .ref (qg x29) 0) (kc hx30 rfl) ?_
  simp only [qn,qb,Nat.reduceAdd,Nat.zero_add,Nat.add_zero,qq,ql,B0,reduceIte,reduceEqDiff]
  refine qi (v := .bool x29.Fenced) rfl ?_
  simp only [ji,qb,j5,qa,q3k,qy,B0,reduceIte,reduceEqDiff]
  refine qu (t:=(!x29.Fenced)) (fun hc32=>?_) (fun hc32=>?_)
  ·rw [iteT hc32] at hF31
   simp only [qf,qe,qh,qa,qx,B0,reduceIte,reduceEqDiff]
   have e33:=qj hF31
   subst e33
   have ho34:=hr14 _ rfl
   have hk35:=hk12
   rw [ho34] at hk35
   dsimp only [jnO] at hk35
   apply hR18
   have he:=qj hk35
   subst he
   simp only [qw,B0,reduceIte,reduceEqDiff]
   exact rfl
  rw [iteF hc32] at hF31
  simp only [za,qo,B0,reduceIte,reduceEqDiff]
  have e36:=qj hF31
  exact hN16 _ _ _ e36.symm ⟨f24,f25,hS23⟩ (f27) (f28)
 rintro _ fr38 h39 rfl ⟨f41,f42,hS40⟩
 dsimp only [jnO] at hk12
 unfold qb4 at hk12
 simp only [qf,qe,qh,qa,qx,B0,reduceIte,reduceEqDiff]
 have he:=qj hk12
 subst he
 simp only [qw,B0,reduceIte,reduceEqDiff]
 exact rfl
end Go.Proofs.Ytjloihcijdcpeaa.X
