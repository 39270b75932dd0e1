/- The functions' code comes to what the plain functions say (3). -/
import Derived.Test.YtefgfcalgjmhjaaXEH2
set_option linter.unusedVariables false
set_option linter.unusedSimpArgs false
set_option maxRecDepth 100000
namespace Go.Proofs.Ytefgfcalgjmhjaa.X
open Go
open Nat (reduceEqDiff)
theorem qfp {W:Nat→Bool}{h:Heap} (hW:∀ b,
  (geL h.length) b→W b=true) (n_0:Int) (lo_1:Int) (hi_2:Int) (r:Bool) (hF:some (kj n_0 lo_1 hi_2)=some r) : Ret E W 72 [.int .i64 n_0,.int .i64 lo_1,
  .int .i64 hi_2] h (fun v h'=>cut h.length h' E.sz false 9 v=some (.bool r)):=by
 refine Ret.of (fn:=x72) rfl (Run.of ?_)
 unfold kj at hF
 have zf0:zc [.int .i64 n_0,.int .i64 lo_1,.int .i64 hi_2] 0 = .int .i64 n_0:=rfl
 have zf1:zc [.int .i64 n_0,.int .i64 lo_1,.int .i64 hi_2] 1 = .int .i64 lo_1:=rfl
 have zf2:zc [.int .i64 n_0,.int .i64 lo_1,.int .i64 hi_2] 2 = .int .i64 hi_2:=rfl
 generalize zc [.int .i64 n_0,.int .i64 lo_1,.int .i64 hi_2]=fr0 at zf0 zf1 zf2 ⊢
 have hS:Sep h (geL h.length) []:=Sep.nil h
 simp only [x72,qf,qe,qd,qa,qun,zf0,zf1,qy,qb,qj0,B0,reduceIte,reduceEqDiff]
 refine z8 4 (fun fr' h'=>Sep h' (geL h.length) ([])∧fr' 14 = .bool ((decide (lo_1≤n_0))&&(decide (n_0≤hi_2)))) (fun Q1 hN2=>?_) ?_
 ·simp only [List.take_succ_cons,List.take_zero]
  simp only [qc (g:=10),B0,reduceIte,reduceEqDiff]
  refine zb (t:=(decide (lo_1≤n_0))) (fun hg3=>?_) (fun hg3=>?_)
  ·simp only [hg3,qc (g:=10),zk,zf0,qd,zf2,qy,qb,qjq,qu,zf,qa,qk,B0,reduceIte,reduceEqDiff]
   exact hN2 _ _ ⟨hS,by rw [x8 hg3]; simp only [B0,reduceIte,reduceEqDiff]⟩
  ·simp only [hg3,qc (g:=10),j5,qu,qb,zg,qa,qk,B0,reduceIte,reduceEqDiff]
   exact hN2 _ _ ⟨hS,by rw [xw hg3]; simp only [B0,reduceIte,reduceEqDiff]⟩
 rintro fr4 h6 ⟨hS7,f5⟩
 simp only [List.drop_succ_cons,List.drop_zero]
 simp only [f5,qd,qa,qz,B0,reduceIte,reduceEqDiff]
 have he:=qj hF
 subst he
 simp only [ze,B0,reduceIte,reduceEqDiff]
 exact rfl
theorem qin {W:Nat→Bool}{h:Heap} (hW:∀ b,
  (geL h.length) b→W b=true) (k:Nat) (replicas_0:Int) (r:Group × Bool) (hF:wg k replicas_0=some r) : Ret E W 42 [.int .i64 replicas_0] h
  (fun v h'=>∃ rv0_2 rc0_2 rv0_4 rc0_4,v = .tup [.agg [.int .i64 r.1.Epoch,.int .i64 r.1.Leader,rv0_2,.int .i64 r.1.High,rv0_4],
  .bool r.2]∧SlF cI 1 3 rv0_2 r.1.InStep rc0_2∧SlN Replica.R 3 51 rv0_4 r.1.Replicas rc0_4∧Sep h' (geL h.length) (rc0_2++(rc0_4++([])))):=by
 refine Ret.of (fn:=x42) rfl (Run.of ?_)
 unfold wg at hF
 have zf0:zc [.int .i64 replicas_0] 0 = .int .i64 replicas_0:=rfl
 generalize zc [.int .i64 replicas_0]=fr0 at zf0 ⊢
 have hS:Sep h (geL h.length) []:=Sep.nil h
 simp only [x42,qf,qe,jt,B0,reduceIte,reduceEqDiff]
 refine jc hS (fun b1 h2 hS3=>?_)
 simp only [qd,qa,qy8,qf,qe,zf0,zd,B0,reduceIte,reduceEqDiff]
 refine j6 rfl (ql qq (ql qq (ql qq zh))) (qfp (fun b hb=>decide_eq_true hb) replicas_0 2 4 _ rfl) ?_
 simp only [jy,qb,kw,qa,qzx,q9,B0,reduceIte,reduceEqDiff]
 refine q8 (t:=(!(kj replicas_0 2 4))) (fun hc5=>?_) (fun hc5=>?_)
 ·rw [iteT hc5] at hF
  simp only [qf,qe,run_build,evp,B0,reduceIte,reduceEqDiff]
  refine qh (v := .agg [.int .i64 0,.int .i64 0,.nil,.int .i64 0,.nil]) rfl ?_
  simp only [zm,B0,reduceIte,reduceEqDiff]
  refine za (us:=[.int .i64 0,.int .i64 0,.nil,.int .i64 0,.nil]) rfl (cs':=[.int .i64 0,.int .i64 0,.nil,.int .i64 0,
    .nil]) hS3 hW rfl rfl (Nat.le_of_ble_eq_true rfl) rfl (fun h6 hS7=>?_)
  simp only [qd,qa,qz,B0,reduceIte,reduceEqDiff]
  have he:=qj hF
  subst he
  refine yi (ql (wa (bb:=b1) (oo:=0) (v := .agg [.int .i64 0,.int .i64 0,.nil,.int .i64 0,
    .nil]) (rfl) ((jg (Sep.bk _ _ _ hS7)).trans rfl)) (ql (wx (v := .bool false) (rfl)) zh)) ?_
  exact ⟨.nil,[],.nil,[],by first | trivial | rfl,SlF.nil,SlN.nil,((Sep.dc (hS7)) : Sep _ (geL h.length) ([]))⟩
 rw [iteF hc5] at hF
 obtain ⟨l8,hx9,hF10⟩:=qi hF
 simp only [zi,qzi,qf,qe,zf0,qd,qmx,B0,reduceIte,reduceEqDiff]
 refine qj8 (R:=Replica.R) (e:=(Replica.mk [] (0:Int) (0:Int))) (z:=[.nil,.int .i64 0,
   .int .i64 0]) hS3 hx9 (Replica.RI (x:=(Replica.mk [] 0 0)) SlF.nil) rfl (fun v11 c12 h13 hv14 hS15=>?_)
 simp only [run_build,evp,B0,reduceIte,reduceEqDiff]
 refine qh (v := .agg [.int .i64 0,.int .i64 0,.nil,.int .i64 0,v11]) (qdk (qb8 (us:=[v11]) (vs:=[.int .i64 0,.int .i64 0,.nil,.int .i64 0,
   v11]) (kr (SlN.one hv14)) rfl (Nat.le_of_ble_eq_true rfl) (qm (SlN.one hv14) zq) rfl qhe)) ?_
 simp only [jt,B0,reduceIte,reduceEqDiff]
 refine jc hS15 (fun b17 h18 hS19=>?_)
 simp only [zm,B0,reduceIte,reduceEqDiff]
 refine za (us:=[.int .i64 0,.int .i64 0,.nil,.int .i64 0,v11]) rfl (cs':=[.int .i64 0,.int .i64 0,.nil,.int .i64 0,
   v11]) hS19 hW rfl (qm rfl (qm rfl (qm rfl (qm rfl (qm (SlN.one hv14) zq))))) (Nat.le_of_ble_eq_true rfl) rfl (fun h21 hS22=>?_)
 simp only [qa,qz5,qf,qe,qd,B0,reduceIte,reduceEqDiff]
 obtain ⟨oc37,hX39,hk40⟩:=ki hF10
 simp only [qwb]
 refine qeg (σ:=Int × Group) (fun s77=>uj replicas_0 l8 s77.1 s77.2) (fun s fr' h'=>∃ v32 c33,
   fr' 0 = .int .i64 replicas_0∧fr' 2 = .ptr b1 0∧fr' 4 = .ptr b17 0∧fr' 5 = .int .i64 s.1∧SlF cI 1 3 v32 s.2.InStep c33∧Sep h' (geL h.length) ([Blk1 b1 [.int .i64 0,
   .int .i64 0,.nil,.int .i64 0,.nil] 29]++([Blk1 b17 [.int .i64 s.2.Epoch,.int .i64 s.2.Leader,v32,.int .i64 s.2.High,
   v11] 29]++(c33++(c12++([])))))) hX39 ⟨.nil,[],zf0,rfl,rfl,rfl,SlF.nil,((Sep.m2 (Sep.m1 (Sep.m1 hS22))) : Sep _ (geL h.length) ([Blk1 b1 [.int .i64 0,
   .int .i64 0,.nil,.int .i64 0,.nil] 29]++([Blk1 b17 [.int .i64 0,.int .i64 0,.nil,.int .i64 0,v11] 29]++(c12++([])))))⟩ (fun _ _ _ h=>h) ?_ ?_
 ·rintro ⟨s29,s30⟩ fr49 h50 ⟨v32,c33,f52,f53,f54,f55,hv34,hS51⟩ oc38 hF41 hr42 Q43 hN44 hK45 hR46 hE47
  dsimp only at *
  unfold uj at hF41
  simp only [qxq,qf,qe,f55,qd,f52,qy,qb,qav,qa,q9,B0,reduceIte,reduceEqDiff]
  refine q8 (t:=(decide (s29<replicas_0))) (fun hc57=>?_) (fun hc57=>?_)
  ·rw [iteT hc57] at hF41
   simp only [zi,qwv,qf,ww,qwk,qe,f54,qt,qb,Nat.reduceAdd,Nat.zero_add,Nat.add_zero,qw,qn,B0,reduceIte,
     reduceEqDiff]
   refine qh (v:=v32) ((zt (Sep.bk _ _ _ (Sep.m1 hS51))).trans rfl) ?_
   simp only [f55,qd,kz,evp,B0,reduceIte,reduceEqDiff]
   refine j9 (n:=1) (f:=cI) [s29] hS51 rfl rfl (fun v58 c59 h60 hv61 hS62=>?_)
   simp only [wv,B0,reduceIte,reduceEqDiff]
   obtain ⟨l64,hx65,hF66⟩:=qi hF41
   refine yv (f:=cI) hv34 (Sep.m3 hS62) hW (fun _=>rfl) (fun _=>rfl) (SlF.first hv61 hS62 (fun _=>rfl)) hx65 (fun v67 c68 h69 hv70 hS71=>?_)
   simp only [f54,qt,qb,Nat.reduceAdd,Nat.zero_add,Nat.add_zero,qw,zm,B0,reduceIte,reduceEqDiff]
   refine za (us:=[v67]) (kr (SlF.one hv70)) (cs':=[.int .i64 s30.Epoch,.int .i64 s30.Leader,v67,.int .i64 s30.High,
     v11]) (Sep.m3 hS71) hW rfl (qm (SlF.one hv70) zq) (Nat.le_of_ble_eq_true rfl) rfl (fun h73 hS74=>?_)
   simp only [qa,xb,qe,f55,qd,qy,qb,qao,qk,B0,reduceIte,reduceEqDiff]
   have e75:=qj hF66
   exact hN44 _ _ _ e75.symm ⟨v67,c68,f52,f53,f54,rfl,hv70,(Sep.m3 (Sep.m2 (Sep.m2 (Sep.m3 (Sep.dc (Sep.m2 hS74))))))⟩
  rw [iteF hc57] at hF41
  simp only [qcf,qbi,qcl,B0,reduceIte,reduceEqDiff]
  have e76:=qj hF41
  exact hK45 _ _ _ e76.symm ⟨v32,c33,f52,f53,f54,f55,hv34,(Sep.m3 (Sep.m3 (Sep.m3 (Sep.m3 hS51))))⟩
 rintro ⟨s78,s79⟩ fr84 h85 rfl ⟨v81,c82,f87,f88,f89,f90,hv83,hS86⟩
 dsimp only [jnO] at hk40
 dsimp only at *
 unfold qev at hk40
 simp only [qf,qe,f89,qn,B0,reduceIte,reduceEqDiff]
 refine qh (v := .agg [.int .i64 s79.Epoch,.int .i64 s79.Leader,v81,.int .i64 s79.High,v11]) ((jg (Sep.bk _ _ _ (Sep.m1 hS86))).trans rfl) ?_
 simp only [f88,zm,B0,reduceIte,reduceEqDiff]
 refine za (us:=[.int .i64 s79.Epoch,.int .i64 s79.Leader,v81,.int .i64 s79.High,v11]) rfl (cs':=[.int .i64 s79.Epoch,.int .i64 s79.Leader,v81,
   .int .i64 s79.High,v11]) hS86 hW rfl (qm rfl (qm rfl (qm (SlF.one hv83) (qm rfl (qm (SlN.one hv14) zq))))) (Nat.le_of_ble_eq_true rfl) rfl
   (fun h91 hS92=>?_)
 simp only [qd,qa,qz,B0,reduceIte,reduceEqDiff]
 have he:=qj hk40
 subst he
 refine yi (ql (wa (bb:=b1) (oo:=0) (v := .agg [.int .i64 s79.Epoch,.int .i64 s79.Leader,v81,.int .i64 s79.High,
   v11]) (f88) ((jg (Sep.bk _ _ _ hS92)).trans rfl)) (ql (wx (v := .bool true) (rfl)) zh)) ?_
 exact ⟨v81,c82,v11,c12,by first | trivial | rfl,hv83,hv14,(Sep.m1 (Sep.m1 (Sep.dc ((Sep.dc (hS92))))))⟩
theorem qgn {W:Nat→Bool}{h:Heap} (hW:∀ b,
  (geL h.length) b→W b=true) (g_0:Group) (r:Group) (hF:qba g_0=some r) : Ret E W 46 [.agg [.int .i64 g_0.Epoch,.int .i64 g_0.Leader,lst cI g_0.InStep,
  .int .i64 g_0.High,lst Replica.cells g_0.Replicas]] h (fun v h'=>∃ rv0_2 rc0_2 rv0_4 rc0_4,v = .agg [.int .i64 r.Epoch,.int .i64 r.Leader,rv0_2,.int .i64 r.High,
  rv0_4]∧SlF cI 1 3 rv0_2 r.InStep rc0_2∧SlN Replica.R 3 51 rv0_4 r.Replicas rc0_4∧Sep h' (geL h.length) (rc0_2++(rc0_4++([])))):=by
 refine Ret.of (fn:=x46) rfl (Run.of ?_)
 unfold qba at hF
 have zf0:zc [.agg [.int .i64 g_0.Epoch,.int .i64 g_0.Leader,lst cI g_0.InStep,.int .i64 g_0.High,lst Replica.cells g_0.Replicas]] 0 = .agg [.int .i64 g_0.Epoch,
   .int .i64 g_0.Leader,lst cI g_0.InStep,.int .i64 g_0.High,lst Replica.cells g_0.Replicas]:=rfl
 generalize zc [.agg [.int .i64 g_0.Epoch,.int .i64 g_0.Leader,lst cI g_0.InStep,.int .i64 g_0.High,lst Replica.cells g_0.Replicas]]=fr0 at zf0 ⊢
 have hS:Sep h (geL h.length) []:=Sep.nil h
 simp only [x46,qf,qe,wu,zf0,B0,reduceIte,reduceEqDiff]
 refine yj (cs:=[.int .i64 g_0.Epoch,.int .i64 g_0.Leader,lst cI g_0.InStep,.int .i64 g_0.High,lst Replica.cells g_0.Replicas]) hS rfl rfl rfl (fun b1 h2 hS3=>?_)
 simp only [jt,B0,reduceIte,reduceEqDiff]
 refine jc hS3 (fun b5 h6 hS7=>?_)
 simp only [qa,B0,reduceIte,reduceEqDiff]
 refine jm (Sep.m1 hS7) hW (by simp only [B0,reduceIte,reduceEqDiff]) (fun h9 hS10=>?_)
 simp only [jb,qwt,qf,jf,qcn,evp,B0,reduceIte,reduceEqDiff]
 refine uu (n:=1) (f:=cI) ([] : List Int) hS10 rfl rfl (fun v11 c12 h13 hv14 hS15=>?_)
 simp only [qku,B0,reduceIte,reduceEqDiff]
 refine qec hS15 (fun b17 h18 hS19=>?_)
 simp only [qa1,qg,Nat.reduceAdd,Nat.zero_add,Nat.add_zero,qv,qai,xv,B0,reduceIte,reduceEqDiff]
 refine qp (v := .int .i64 g_0.Epoch) rfl ?_
 simp only [qa1,qg,Nat.reduceAdd,Nat.zero_add,Nat.add_zero,qv,qai,xv,B0,reduceIte,reduceEqDiff]
 refine qp (v := .int .i64 g_0.Leader) rfl ?_
 simp only [zr,qg,Nat.reduceAdd,Nat.zero_add,Nat.add_zero,qv,zl,B0,reduceIte,reduceEqDiff]
 refine qp (v:=lst cI g_0.InStep) rfl ?_
 simp only [qm9,B0,reduceIte,reduceEqDiff]
 obtain ⟨l21,hx22,hF23⟩:=qi hF
 have hq24:=nwq (fun z hz=>Sep.dj (Sep.m2 (Sep.m2 hS19)) qwx (SlF.rowfp hv14 z hz))
 refine qyj qq0 ?_
 refine qbx (f:=cI) hv14 (Sep.m1 hS19) hW (fun _=>rfl) (fun _=>rfl) (qb4 (fun _=>rfl)) hx22 (fun v25 c26 h27 hv28 hS29=>?_)
 simp only [qa1,qg,Nat.reduceAdd,Nat.zero_add,Nat.add_zero,qv,qai,xv,B0,reduceIte,reduceEqDiff]
 refine qp (v := .int .i64 g_0.High) rfl ?_
 simp only [qh5,evp,B0,reduceIte,reduceEqDiff]
 refine qp (v := .agg [.int .i64 g_0.Epoch,.int .i64 g_0.Leader,v25,.int .i64 g_0.High,
   .nil]) (qdk (qb8 (us:=[.int .i64 g_0.Epoch]) (vs:=[.int .i64 g_0.Epoch,.int .i64 0,.nil,.int .i64 0,
   .nil]) rfl rfl (Nat.le_of_ble_eq_true rfl) rfl rfl (qb8 (us:=[.int .i64 g_0.Leader]) (vs:=[.int .i64 g_0.Epoch,.int .i64 g_0.Leader,.nil,.int .i64 0,
   .nil]) rfl rfl (Nat.le_of_ble_eq_true rfl) rfl rfl (qb8 (us:=[v25]) (vs:=[.int .i64 g_0.Epoch,.int .i64 g_0.Leader,v25,.int .i64 0,
   .nil]) (kr (SlF.one hv28)) rfl (Nat.le_of_ble_eq_true rfl) (qm (SlF.one hv28) zq) rfl (qb8 (us:=[.int .i64 g_0.High]) (vs:=[.int .i64 g_0.Epoch,
   .int .i64 g_0.Leader,v25,.int .i64 g_0.High,.nil]) rfl rfl (Nat.le_of_ble_eq_true rfl) rfl rfl qhe))))) ?_
 simp only [qed,B0,reduceIte,reduceEqDiff]
 refine qbt (us:=[.int .i64 g_0.Epoch,.int .i64 g_0.Leader,v25,.int .i64 g_0.High,.nil]) rfl (cs':=[.int .i64 g_0.Epoch,.int .i64 g_0.Leader,v25,
   .int .i64 g_0.High,.nil]) (Sep.m1 hS29) hW rfl (qm rfl (qm rfl (qm (SlF.one hv28) (qm rfl (qm rfl zq))))) (Nat.le_of_ble_eq_true rfl) rfl
   (fun h31 hS32=>?_)
 simp only [qx,qwj,qf,qe,qt,qb,Nat.reduceAdd,Nat.zero_add,Nat.add_zero,qv,qn,B0,reduceIte,reduceEqDiff]
 refine qh (v:=lst Replica.cells g_0.Replicas) rfl ?_
 simp only [zw,qb,jh,qd,qa,B0,reduceIte,reduceEqDiff]
 obtain ⟨oc45,hX47,hk48⟩:=ki hF23
 simp only [qzl]
 refine wq (σ:=Group) g_0.Replicas (fun i43 x44 s107=>qbu l21 i43 x44 s107) (fun s fr' h'=>∃ v40 c41,
   fr' 2 = .ptr b5 0∧fr' 3 = .ptr b17 0∧fr' 18=lst Replica.cells g_0.Replicas∧SlN Replica.R 3 51 v40 s.Replicas c41∧Sep h' (geL h.length) ([Blk1 b5 [.int .i64 0,
   .int .i64 0,.nil,.int .i64 0,.nil] 29]++([Blk1 b17 [.int .i64 s.Epoch,.int .i64 s.Leader,v25,.int .i64 s.High,v40] 29]++(c26++(c41++([])))))) hX47 ⟨.nil,[],
   rfl,rfl,rfl,SlN.nil,((Sep.m2 (Sep.m1 (Sep.m1 hS32))) : Sep _ (geL h.length) ([Blk1 b5 [.int .i64 0,.int .i64 0,.nil,.int .i64 0,
   .nil] 29]++([Blk1 b17 [.int .i64 g_0.Epoch,.int .i64 g_0.Leader,v25,.int .i64 g_0.High,.nil] 29]++(c26++([])))))⟩ (by simp only [B0,reduceIte,
   reduceEqDiff]) (by simp only [B0,reduceIte,reduceEqDiff]) (fun _ _ _ h=>h) rfl rfl (fun _ _ _ _ h=>h) (fun _ _ _ _ h=>h) (fun _ _ _ _ h=>h) (by decide) ?_ ?_
 ·rintro i43 x44 s38 fr57 h58 hx63 ⟨v40,c41,f60,f61,f62,hv42,hS59⟩ f64 f65 oc46 hF49 hr50 Q51 hN52 hB56 hK53 hR54 hE55
  unfold qbu at hF49
  simp only [qwf,qf,qe,f62,f64,jz,B0,reduceIte,reduceEqDiff]
  refine qh (v := .ref (Replica.cells x44) 0) (wn hx63 rfl) ?_
  simp only [qn,B0,reduceIte,reduceEqDiff]
  refine qh (v := .agg [lst Row.cells x44.Log,.int .i64 x44.Epoch,.int .i64 x44.Known]) rfl ?_
  simp only [jt,B0,reduceIte,reduceEqDiff]
  refine jc hS59 (fun b66 h67 hS68=>?_)
  simp only [zm,B0,reduceIte,reduceEqDiff]
  refine za (us:=[lst Row.cells x44.Log,.int .i64 x44.Epoch,.int .i64 x44.Known]) rfl (cs':=[lst Row.cells x44.Log,.int .i64 x44.Epoch,
    .int .i64 x44.Known]) hS68 hW rfl rfl (Nat.le_of_ble_eq_true rfl) rfl (fun h70 hS71=>?_)
  simp only [qa,qz7,qf,qe,kz,evp,B0,reduceIte,reduceEqDiff]
  refine j9 (n:=2) (f:=Row.cells) ([] : List Row) hS71 rfl rfl (fun v72 c73 h74 hv75 hS76=>?_)
  simp only [qt,qb,Nat.reduceAdd,Nat.zero_add,Nat.add_zero,qw,qn,B0,reduceIte,reduceEqDiff]
  refine qh (v:=lst Row.cells x44.Log) ((zt (Sep.bk _ _ _ (Sep.m1 hS76))).trans rfl) ?_
  simp only [wv,B0,reduceIte,reduceEqDiff]
  obtain ⟨l78,hx79,hF80⟩:=qi hF49
  refine yv (f:=Row.cells) hv75 hS76 hW (fun _=>rfl) (fun _=>rfl) (qb4 (fun _=>rfl)) hx79 (fun v81 c82 h83 hv84 hS85=>?_)
  simp only [qt,qb,Nat.reduceAdd,Nat.zero_add,Nat.add_zero,qw,zm,B0,reduceIte,reduceEqDiff]
  refine za (us:=[v81]) (kr (SlF.one hv84)) (cs':=[v81,.int .i64 x44.Epoch,
    .int .i64 x44.Known]) (Sep.m1 hS85) hW rfl (qm (SlF.one hv84) zq) (Nat.le_of_ble_eq_true rfl) rfl (fun h87 hS88=>?_)
  simp only [qa,qvj,qe,f61,qt,qb,Nat.reduceAdd,Nat.zero_add,Nat.add_zero,qw,qn,B0,reduceIte,reduceEqDiff]
  refine qh (v:=v40) ((zt (Sep.bk _ _ _ (Sep.m3 hS88))).trans rfl) ?_
  simp only [qn,B0,reduceIte,reduceEqDiff]
  refine qh (v := .agg [v81,.int .i64 x44.Epoch,.int .i64 x44.Known]) ((jg (Sep.bk _ _ _ hS88)).trans rfl) ?_
  simp only [kz,evp,B0,reduceIte,reduceEqDiff]
  refine qg6 (R:=Replica.R) (n:=3) (cs:=[v81,.int .i64 x44.Epoch,.int .i64 x44.Known]) (os:=c82) (Sep.m1 hS88) (qb8 (us:=[v81,.int .i64 x44.Epoch,
    .int .i64 x44.Known]) (vs:=[v81,.int .i64 x44.Epoch,
    .int .i64 x44.Known]) rfl rfl (Nat.le_of_ble_eq_true rfl) (qm (SlF.one hv84) (qm rfl (qm rfl zq))) rfl qhe) (Replica.RI (x :=
    (Replica.mk l78 x44.Epoch x44.Known)) hv84) rfl (fun v89 c90 h91 hv92 hS93=>?_)
  simp only [wv,B0,reduceIte,reduceEqDiff]
  obtain ⟨l95,hx96,hF97⟩:=qi hF80
  refine qj5 (R:=Replica.R) (c:=c41) hv42 hv92 (Sep.m5 hS93) hW Replica.RO.len Replica.RO.one hx96 (fun v98 c99 h100 hv101 hS102=>?_)
  simp only [f61,qt,qb,Nat.reduceAdd,Nat.zero_add,Nat.add_zero,qw,zm,B0,reduceIte,reduceEqDiff]
  refine za (us:=[v98]) (kr (SlN.one hv101)) (cs':=[.int .i64 s38.Epoch,.int .i64 s38.Leader,v25,.int .i64 s38.High,
    v98]) (Sep.m3 hS102) hW rfl (qm (SlN.one hv101) zq) (Nat.le_of_ble_eq_true rfl) rfl (fun h104 hS105=>?_)
  simp only [qa,qk,B0,reduceIte,reduceEqDiff]
  have e106:=qj hF97
  exact hN52 _ _ _ e106.symm ⟨v98,c99,f60,f61,f62,hv101,(Sep.m3 (Sep.m2 (Sep.m3 (Sep.m1 (Sep.dc (Sep.m2 hS105))))))⟩ (f64) (f65)
 rintro s108 fr113 h114 rfl ⟨v110,c111,f116,f117,f118,hv112,hS115⟩
 dsimp only [jnO] at hk48
 unfold qfv at hk48
 simp only [qf,qe,f117,qn,B0,reduceIte,reduceEqDiff]
 refine qh (v := .agg [.int .i64 s108.Epoch,.int .i64 s108.Leader,v25,.int .i64 s108.High,v110]) ((jg (Sep.bk _ _ _ (Sep.m1 hS115))).trans rfl) ?_
 simp only [f116,zm,B0,reduceIte,reduceEqDiff]
 refine za (us:=[.int .i64 s108.Epoch,.int .i64 s108.Leader,v25,.int .i64 s108.High,v110]) rfl (cs':=[.int .i64 s108.Epoch,.int .i64 s108.Leader,v25,
   .int .i64 s108.High,v110]) hS115 hW rfl (qm rfl (qm rfl (qm (SlF.one hv28) (qm rfl (qm (SlN.one hv112) zq))))) (Nat.le_of_ble_eq_true rfl) rfl
   (fun h119 hS120=>?_)
 simp only [qa,qz,B0,reduceIte,reduceEqDiff]
 have he:=qj hk48
 subst he
 refine qcv (bb:=b5) (oo:=0) (v := .agg [.int .i64 s108.Epoch,.int .i64 s108.Leader,v25,.int .i64 s108.High,v110]) (by simp only [f116,B0,reduceIte,
   reduceEqDiff]) ((jg (Sep.bk _ _ _ hS120)).trans rfl) ?_
 exact ⟨v25,c26,v110,c111,by first | trivial | rfl,hv28,hv112,(Sep.m1 (Sep.m1 (Sep.dc ((Sep.dc (hS120))))))⟩
theorem qjv {W:Nat→Bool}{h:Heap} (hW:∀ b,
  (geL h.length) b→W b=true) (k:Nat) (a_0:List Row) (b_1:List Row) (r:Int) (hF:qan k a_0 b_1=some r) : Ret E W 76 [lst Row.cells a_0,
  lst Row.cells b_1] h (fun v h'=>cut h.length h' E.sz false 9 v=some (.int .i64 r)):=by
 refine Ret.of (fn:=x76) rfl (Run.of ?_)
 unfold qan at hF
 have zf0:zc [lst Row.cells a_0,lst Row.cells b_1] 0=lst Row.cells a_0:=rfl
 have zf1:zc [lst Row.cells a_0,lst Row.cells b_1] 1=lst Row.cells b_1:=rfl
 generalize zc [lst Row.cells a_0,lst Row.cells b_1]=fr0 at zf0 zf1 ⊢
 have hS:Sep h (geL h.length) []:=Sep.nil h
 simp only [x76,qf,qe,qd,qa,qxe,qyd,B0,reduceIte,reduceEqDiff]
 obtain ⟨oc5,hX7,hk8⟩:=ki hF
 simp only [qxm]
 refine qeg (σ:=Int) (fun s58=>u7 a_0 b_1 s58) (fun s fr' h'=>fr' 0=lst Row.cells a_0∧fr' 1=lst Row.cells b_1∧fr' 5 = .int .i64 s∧Sep h'
   (geL h.length) ([])) hX7 ⟨zf0,zf1,rfl,hS⟩ (fun _ _ _ h=>h) ?_ ?_
 ·rintro s2 fr17 h18 ⟨f20,f21,f22,hS19⟩ oc6 hF9 hr10 Q11 hN12 hK13 hR14 hE15
  unfold u7 at hF9
  simp only [qt8,qf,jf,f22,zn,qg,f20,qdw,jh,yd,qav,B0,reduceIte,reduceEqDiff]
  refine qap 5 (fun fr' h'=>Sep h' (geL h.length) ([])∧fr' 15 = .bool ((decide (s2<(List.length a_0:Int)))&&(decide (s2 <
    (List.length b_1:Int))))∧fr' 0=lst Row.cells a_0∧fr' 1=lst Row.cells b_1∧fr' 5 = .int .i64 s2) rfl (fun Q24 hN25=>?_) ?_
  ·simp only [List.take_succ_cons,List.take_zero]
   simp only [qo (g:=10),B0,reduceIte,reduceEqDiff]
   refine jj (t:=(decide (s2<(List.length a_0:Int)))) (fun hg26=>?_) (fun hg26=>?_)
   ·simp only [hg26,qo (g:=10),zj,f22,zn,qg,f21,qdw,jh,yd,qav,jd,zf,qx,qk,B0,reduceIte,
     reduceEqDiff]
    exact hN25 _ _ ⟨hS19,by rw [x8 hg26]; simp only [B0,reduceIte,reduceEqDiff],f20,f21,f22⟩
   ·simp only [hg26,qo (g:=10),yn,jd,qg,zg,qx,qk,B0,reduceIte,reduceEqDiff]
    exact hN25 _ _ ⟨hS19,by rw [xw hg26]; simp only [B0,reduceIte,reduceEqDiff],f20,f21,f22⟩
  rintro fr27 h32 ⟨hS33,f28,f29,f30,f31⟩
  simp only [List.drop_succ_cons,List.drop_zero]
  simp only [f28,zn,qg,B0,reduceIte,reduceEqDiff]
  obtain ⟨v37,hx38,hF39⟩:=qi hF9
  refine qap 10 (fun fr' h'=>Sep h' (geL h.length) ([])∧fr' 26 = .bool v37∧fr' 0=lst Row.cells a_0∧fr' 1=lst Row.cells b_1∧fr' 5 = .int .i64 s2) rfl
    (fun Q34 hN35=>?_) ?_
  ·simp only [List.take_succ_cons,List.take_zero]
   simp only [qo (g:=16),B0,reduceIte,reduceEqDiff]
   refine jj (t:=((decide (s2<(List.length a_0:Int)))&&(decide (s2<(List.length b_1:Int))))) (fun hg36=>?_) (fun hg36=>?_)
   ·rw [iteT hg36] at hx38
    obtain ⟨x40,hx41,hF42⟩:=qi hx38
    simp only [hg36,qo (g:=16),zj,f29,zn,qg,f31,wt,B0,reduceIte,reduceEqDiff]
    refine qp (v := .ref (Row.cells x40) 0) (y8 hx41 rfl) ?_
    simp only [hg36,qo (g:=16),zj,zl,B0,reduceIte,reduceEqDiff]
    refine qp (v := .agg [.int .i64 x40.Epoch,.int .i64 x40.Value]) rfl ?_
    obtain ⟨x43,hx44,hF45⟩:=qi hF42
    simp only [hg36,qo (g:=16),zj,f30,zn,qg,f31,wt,B0,reduceIte,reduceEqDiff]
    refine qp (v := .ref (Row.cells x43) 0) (y8 hx44 rfl) ?_
    simp only [hg36,qo (g:=16),zj,zl,B0,reduceIte,reduceEqDiff]
    refine qp (v := .agg [.int .i64 x43.Epoch,.int .i64 x43.Value]) rfl ?_
    simp only [hg36,qo (g:=16),zj,qkx,B0,reduceIte,reduceEqDiff]
    refine qp (v := .bool ((x40.Epoch == x43.Epoch)&&((x40.Value == x43.Value)&&true))) rfl ?_
    simp only [hg36,jd,qg,zf,qx,qk,B0,reduceIte,reduceEqDiff]
    have e46:=qj hF45
    exact hN35 _ _ ⟨hS33,by rw [←e46]; simp only [B0,reduceIte,reduceEqDiff],f29,f30,f31⟩
   ·rw [iteF hg36] at hx38
    simp only [hg36,qo (g:=16),yn,jd,qg,zg,qx,qk,B0,reduceIte,reduceEqDiff]
    have e47:=qj hx38
    exact hN35 _ _ ⟨hS33,by rw [←e47]; simp only [B0,reduceIte,reduceEqDiff],f29,f30,f31⟩
  rintro fr48 h53 ⟨hS54,f49,f50,f51,f52⟩
  simp only [List.drop_succ_cons,List.drop_zero]
  simp only [qx,f49,q9,B0,reduceIte,reduceEqDiff]
  refine q8 (t:=v37) (fun hc55=>?_) (fun hc55=>?_)
  ·rw [iteT hc55] at hF39
   simp only [zi,ww,qe,f52,qd,qy,qb,qao,qa,xb,qk,B0,reduceIte,reduceEqDiff]
   have e56:=qj hF39
   exact hN12 _ _ _ e56.symm ⟨f50,f51,rfl,hS54⟩
  rw [iteF hc55] at hF39
  simp only [qcf,qbi,qcl,B0,reduceIte,reduceEqDiff]
  have e57:=qj hF39
  exact hK13 _ _ _ e57.symm ⟨f50,f51,f52,hS54⟩
 rintro s59 fr60 h61 rfl ⟨f63,f64,f65,hS62⟩
 dsimp only [jnO] at hk8
 unfold qe6 at hk8
 simp only [qf,qe,f65,qd,qa,qz,B0,reduceIte,reduceEqDiff]
 have he:=qj hk8
 subst he
 simp only [ze,B0,reduceIte,reduceEqDiff]
 exact rfl
theorem qiw {W:Nat→Bool}{h:Heap}{lo:Nat→Prop}{S0:List Obj} (hW:∀ b,
  lo b→W b=true) (k:Nat) (g_0:Group) (pv0_2:XV) (pc0_2:List Obj) (ph0_2:SlF cI 1 3 pv0_2 g_0.InStep pc0_2) (pv0_4:XV) (pc0_4:List Obj)
  (ph0_4:SlN Replica.R 3 51 pv0_4 g_0.Replicas pc0_4) (k_1:Int) (n_2:Int) (r:Group) (hF:xy k g_0 k_1 n_2=some r) (hS:Sep h lo (pc0_2++(pc0_4 ++
  (S0)))) : Ret E W 47 [.agg [.int .i64 g_0.Epoch,.int .i64 g_0.Leader,pv0_2,.int .i64 g_0.High,pv0_4],.int .i64 k_1,.int .i64 n_2] h (fun v h'=>∃ rc0_2 rc0_4,
  v = .agg [.int .i64 r.Epoch,.int .i64 r.Leader,pv0_2,.int .i64 r.High,
  pv0_4]∧SlF cI 1 3 pv0_2 r.InStep rc0_2∧SlN Replica.R 3 51 pv0_4 r.Replicas rc0_4∧Sep h' lo (rc0_2++(rc0_4++(S0)))):=by
 refine Ret.of (fn:=x47) rfl (Run.of ?_)
 unfold xy at hF
 have zf0:zc [.agg [.int .i64 g_0.Epoch,.int .i64 g_0.Leader,pv0_2,.int .i64 g_0.High,pv0_4],.int .i64 k_1,.int .i64 n_2] 0 = .agg [.int .i64 g_0.Epoch,
   .int .i64 g_0.Leader,pv0_2,.int .i64 g_0.High,pv0_4]:=rfl
 have zf1:zc [.agg [.int .i64 g_0.Epoch,.int .i64 g_0.Leader,pv0_2,.int .i64 g_0.High,pv0_4],.int .i64 k_1,.int .i64 n_2] 1 = .int .i64 k_1:=rfl
 have zf2:zc [.agg [.int .i64 g_0.Epoch,.int .i64 g_0.Leader,pv0_2,.int .i64 g_0.High,pv0_4],.int .i64 k_1,.int .i64 n_2] 2 = .int .i64 n_2:=rfl
 generalize zc [.agg [.int .i64 g_0.Epoch,.int .i64 g_0.Leader,pv0_2,.int .i64 g_0.High,pv0_4],.int .i64 k_1,.int .i64 n_2]=fr0 at zf0 zf1 zf2 ⊢
 simp only [x47,qf,qe,wu,zf0,B0,reduceIte,reduceEqDiff]
 refine yj (cs:=[.int .i64 g_0.Epoch,.int .i64 g_0.Leader,pv0_2,.int .i64 g_0.High,
   pv0_4]) hS rfl rfl (qm rfl (qm rfl (qm (SlF.one ph0_2) (qm rfl (qm (SlN.one ph0_4) zq))))) (fun b1 h2 hS3=>?_)
 simp only [jt,B0,reduceIte,reduceEqDiff]
 refine jc hS3 (fun b5 h6 hS7=>?_)
 simp only [qa,B0,reduceIte,reduceEqDiff]
 refine jm (Sep.m1 hS7) hW (by simp only [B0,reduceIte,reduceEqDiff]) (fun h9 hS10=>?_)
 simp only [jb,qrk,qf,qe,qt,qb,Nat.reduceAdd,Nat.zero_add,Nat.add_zero,qv,qn,B0,reduceIte,reduceEqDiff]
 refine qh (v:=pv0_4) rfl ?_
 simp only [qt,qb,Nat.reduceAdd,Nat.zero_add,Nat.add_zero,qv,qn,B0,reduceIte,reduceEqDiff]
 refine qh (v := .int .i64 g_0.Leader) rfl ?_
 obtain ⟨x11,hx12,hF13⟩:=qi hF
 simp only [jz,B0,reduceIte,reduceEqDiff]
 obtain ⟨b14,hb15⟩:=SlN.isrow ph0_4 (uf hx12)
 refine qh (SlN.ia ph0_4 hb15 hx12) ?_
 obtain ⟨c16,cs17,os18,hv19,hR20,hS21⟩:=SlG.opn (SlN.toG ph0_4 hb15 Replica.RO.len) hx12 z9 Replica.RO.len (Sep.m2 hS10)
 obtain ⟨v23,c24,hv25,rfl,rfl⟩:=hR20
 have hS22:=Sep.no1 hS21
 simp only [qt,qb,Nat.reduceAdd,Nat.zero_add,Nat.add_zero,qw,qn,B0,reduceIte,reduceEqDiff]
 refine qh (v:=v23) ((SlG.ld (o:=0) hv19 rfl hx12 hS22 (Nat.le_of_ble_eq_true rfl)).trans rfl) ?_
 simp only [qd,qa,qyx,qf,qe,qt,qb,Nat.reduceAdd,Nat.zero_add,Nat.add_zero,qv,qn,B0,reduceIte,reduceEqDiff]
 refine qh (v:=pv0_4) rfl ?_
 obtain ⟨x27,hx28,hF29⟩:=qi hF13
 simp only [zf1,qd,jz,B0,reduceIte,reduceEqDiff]
 refine qh (SlG.ia hv19 hx28) ?_
 obtain ⟨hp30,hF31⟩:=qfz hF29
 have hn32:=qw4 hp30 hx12 hx28
 obtain ⟨c33,cs34,os35,hv36,hR37,hS38⟩:=SlG.opn hv19 hx28 ((qe5 hn32).trans z9) Replica.RO.len hS22
 obtain ⟨v40,c41,hv42,rfl,rfl⟩:=hR37
 have hS39:=Sep.no1 hS38
 simp only [qn,B0,reduceIte,reduceEqDiff]
 refine qh (v := .agg [v40,.int .i64 x27.Epoch,.int .i64 x27.Known]) ((SlG.lds (o:=0) hv36 rfl hx28 hS39 (Nat.le_of_ble_eq_true rfl)).trans rfl) ?_
 simp only [jt,B0,reduceIte,reduceEqDiff]
 refine jc hS39 (fun b44 h45 hS46=>?_)
 simp only [zm,B0,reduceIte,reduceEqDiff]
 refine za (us:=[v40,.int .i64 x27.Epoch,.int .i64 x27.Known]) rfl (cs':=[v40,.int .i64 x27.Epoch,
   .int .i64 x27.Known]) hS46 hW rfl (qm (SlF.one hv42) (qm rfl (qm rfl zq))) (Nat.le_of_ble_eq_true rfl) rfl (fun h48 hS49=>?_)
 simp only [qa,qy5,qf,qe,qt,qb,Nat.reduceAdd,Nat.zero_add,Nat.add_zero,qw,qn,B0,reduceIte,reduceEqDiff]
 refine qh (v:=v40) ((zt (Sep.bk _ _ _ hS49)).trans rfl) ?_
 obtain ⟨v50,hx51,hF52⟩:=qi hF31
 simp only [qd,zd,B0,reduceIte,reduceEqDiff]
 refine j6 rfl (ql (SlF.snap hv42 (Sep.m2 hS49) rfl (fun _=>rfl) (fun _=>rfl)) (ql (SlF.snap hv25 (Sep.m3 hS49) rfl (fun _=>rfl) (fun _=>rfl)) zh))
   (qjv (fun b hb=>decide_eq_true hb) k x27.Log x11.Log v50 hx51) ?_
 simp only [qd,qa,qup,qf,qe,zf2,zw,qb,SlF.plen hv25,qy,qc7,qd5,qw1,q9,B0,reduceIte,reduceEqDiff]
 obtain ⟨s53,hX55,hk56⟩:=qi hF52
 refine qdt (t:=(decide ((IntKind.wrap .i64 ((List.length x11.Log:Int) - v50))<n_2)))
   (fun fr' h'=>fr' 1 = .int .i64 k_1∧fr' 2 = .int .i64 s53∧fr' 3 = .ref [.int .i64 g_0.Epoch,.int .i64 g_0.Leader,pv0_2,.int .i64 g_0.High,
   pv0_4] 0∧fr' 6 = .ptr b5 0∧fr' 7=v23∧fr' 8 = .ptr b44 0∧fr' 9 = .int .i64 v50∧Sep h' lo (pc0_2++(c33++([Blk1 b5 [.int .i64 0,.int .i64 0,.nil,.int .i64 0,
   .nil] 29]++(c24++([Blk1 b44 [v40,.int .i64 x27.Epoch,.int .i64 x27.Known] 51]++(c41++(S0)))))))) (fun Q57 hN58 hR59 hE60=>⟨fun hc61=>?_,fun hc61=>?_⟩) ?_
 ·rw [iteT hc61] at hX55
  simp only [qws,qe,qd,zw,qb,SlF.plen hv25,qy,qc7,qa,qk,B0,reduceIte,reduceEqDiff]
  have e62:=qj hX55
  subst e62
  exact hN58 _ _ ⟨zf1,rfl,rfl,rfl,rfl,rfl,rfl,(Sep.m5 (Sep.m4 (Sep.m4 (Sep.m3 (Sep.m1 (Sep.m2 hS49))))))⟩
 ·rw [iteF hc61] at hX55
  simp only [zi,qk,B0,reduceIte,reduceEqDiff]
  have e63:=qj hX55
  subst e63
  exact hN58 _ _ ⟨zf1,zf2,rfl,rfl,rfl,rfl,rfl,(Sep.m5 (Sep.m4 (Sep.m4 (Sep.m3 (Sep.m1 (Sep.m2 hS49))))))⟩
 rintro fr64 h65 ⟨f67,f68,f69,f70,f71,f72,f73,hS66⟩
 unfold um at hk56
 simp only [qyu,qf,qe,kz,evp,B0,reduceIte,reduceEqDiff]
 refine j9 (n:=2) (f:=Row.cells) ([] : List Row) hS66 rfl rfl (fun v74 c75 h76 hv77 hS78=>?_)
 obtain ⟨l80,hx81,hF82⟩:=qi hk56
 simp only [f71,qd,f73,f68,qy,qb,qao,qcm,Option.map_some,Option.map_none,B0,reduceIte,reduceEqDiff]
 obtain ⟨w83,i84,he85,hw86⟩:=SlF.win (f:=Row.cells) (ty:=98) none (some (IntKind.wrap .i64 (v50+s53))) hv25 hx81 (Sep.m4 hS78)
 refine qh he85 ?_
 simp only [wv,B0,reduceIte,reduceEqDiff]
 obtain ⟨l87,hx88,hF89⟩:=qi hF82
 refine yv (f:=Row.cells) hv77 hS78 hW (fun _=>rfl) (fun _=>rfl) (SlW.first hw86 hv25 (Sep.m4 hS78) (fun _=>rfl)) hx88 (fun v90 c91 h92 hv93 hS94=>?_)
 simp only [f72,qt,qb,Nat.reduceAdd,Nat.zero_add,Nat.add_zero,qw,zm,B0,reduceIte,reduceEqDiff]
 refine za (us:=[v90]) (kr (SlF.one hv93)) (cs':=[v90,.int .i64 x27.Epoch,
   .int .i64 x27.Known]) (Sep.m5 hS94) hW rfl (qm (SlF.one hv93) zq) (Nat.le_of_ble_eq_true rfl) rfl (fun h96 hS97=>?_)
 simp only [qa,qt7,qf,qe,f69,qt,qb,Nat.reduceAdd,Nat.zero_add,Nat.add_zero,qv,qn,B0,reduceIte,reduceEqDiff]
 refine qh (v := .int .i64 g_0.Epoch) rfl ?_
 simp only [f72,qt,qb,Nat.reduceAdd,Nat.zero_add,Nat.add_zero,qw,zm,B0,reduceIte,reduceEqDiff]
 refine za (us:=[.int .i64 g_0.Epoch]) rfl (cs':=[v90,.int .i64 g_0.Epoch,.int .i64 x27.Known]) hS97 hW rfl rfl (Nat.le_of_ble_eq_true rfl) rfl (fun h98 hS99=>?_)
 simp only [qa,q0i,qf,qe,f72,qt,qb,Nat.reduceAdd,Nat.zero_add,Nat.add_zero,qw,qn,B0,reduceIte,reduceEqDiff]
 refine qh (v:=v90) ((zt (Sep.bk _ _ _ hS99)).trans rfl) ?_
 simp only [zw,qb,SlF.plen hv93,f72,qt,Nat.reduceAdd,Nat.zero_add,Nat.add_zero,qw,zm,B0,reduceIte,reduceEqDiff]
 refine za (us:=[.int .i64 (List.length l87:Int)]) rfl (cs':=[v90,.int .i64 g_0.Epoch,
   .int .i64 (List.length l87:Int)]) hS99 hW rfl rfl (Nat.le_of_ble_eq_true rfl) rfl (fun h100 hS101=>?_)
 simp only [qa,qyo,qf,qe,f69,qt,qb,Nat.reduceAdd,Nat.zero_add,Nat.add_zero,qv,qn,B0,reduceIte,reduceEqDiff]
 refine qh (v:=pv0_4) rfl ?_
 simp only [f67,qd,f72,qn,B0,reduceIte,reduceEqDiff]
 refine qh (v := .agg [v90,.int .i64 g_0.Epoch,.int .i64 (List.length l87:Int)]) ((jg (Sep.bk _ _ _ hS101)).trans rfl) ?_
 simp only [jz,B0,reduceIte,reduceEqDiff]
 refine qh (SlG.ia hv36 hx28) ?_
 simp only [zm,B0,reduceIte,reduceEqDiff]
 refine qg3 (n:=3) (us:=[v90,.int .i64 g_0.Epoch,.int .i64 (List.length l87:Int)]) (cs:=[v40,.int .i64 x27.Epoch,.int .i64 x27.Known]) (o:=0) (cs':=[v90,
   .int .i64 g_0.Epoch,.int .i64 (List.length l87:Int)]) rfl hv36 rfl hx28 (Sep.m3 hS101) hW rfl (qm (SlF.one hv93) (qm rfl (qm rfl zq)))
   (Nat.le_of_ble_eq_true rfl) rfl (fun c104 h102 hv105 hS103=>?_)
 simp only [qa,qf,qe,f69,qn,B0,reduceIte,reduceEqDiff]
 refine qh (v := .agg [.int .i64 g_0.Epoch,.int .i64 g_0.Leader,pv0_2,.int .i64 g_0.High,pv0_4]) rfl ?_
 simp only [f70,zm,B0,reduceIte,reduceEqDiff]
 refine za (us:=[.int .i64 g_0.Epoch,.int .i64 g_0.Leader,pv0_2,.int .i64 g_0.High,pv0_4]) rfl (cs':=[.int .i64 g_0.Epoch,.int .i64 g_0.Leader,pv0_2,
   .int .i64 g_0.High,pv0_4]) (Sep.m4 hS103) hW rfl (qm rfl (qm rfl (qm (SlF.one ph0_2) (qm rfl (qm (SlG.one hv105) zq))))) (Nat.le_of_ble_eq_true rfl) rfl
   (fun h106 hS107=>?_)
 simp only [qa,qz,B0,reduceIte,reduceEqDiff]
 obtain ⟨c108,hv109,hS110⟩:=SlG.cls (e':=(Replica.mk l87 g_0.Epoch (List.length l87:Int))) (c:=c104) (os:=c91) hv105 rfl hx28 ((qe5 hn32).trans z9) (Replica.RI
   (x:=(Replica.mk l87 g_0.Epoch (List.length l87:Int))) hv93) (Sep.m2 (Sep.m3 hS107))
 have hx111:=qdb (x':=(Replica.mk l87 g_0.Epoch (List.length l87:Int))) hx28
 have hx112:=qhn (e:=(Replica.mk l87 g_0.Epoch (List.length l87:Int))) hx12 (Ne.symm hn32)
 obtain ⟨c113,hv114,hS115⟩:=SlG.cls0 (c:=c108) (os:=c24) hv109 rfl hx112 z9 (Replica.RI (x:=x11) hv25) (Sep.m1 (Sep.m4 hS110))
 have hv116:=SlG.toN hv114
 have he:=qj hF89
 subst he
 refine qcv (bb:=b5) (oo:=0) (v := .agg [.int .i64 g_0.Epoch,.int .i64 g_0.Leader,pv0_2,.int .i64 g_0.High,pv0_4]) (by simp only [f70,B0,reduceIte,
   reduceEqDiff]) ((jg (Sep.bk _ _ _ (Sep.m1 hS115))).trans rfl) ?_
 exact ⟨pc0_2,c113,by first | trivial | rfl,ph0_2,hv116,(Sep.m1 (Sep.dc (Sep.m2 (Sep.dc (Sep.m1 (Sep.dc (Sep.m1 hS115)))))))⟩
theorem qlf {W:Nat→Bool}{h:Heap}{lo:Nat→Prop}{S0:List Obj} (hW:∀ b,
  lo b→W b=true) (k:Nat) (pv0:XV) (pc0:List Obj) (l_0:List Int) (ph0:SlF cI 1 3 pv0 l_0 pc0) (n_1:Int) (r:List Int) (hF:qcw k l_0 n_1=some r)
  (hS:Sep h lo (pc0++(S0))) : Ret E W 48 [pv0,.int .i64 n_1] h (fun v h'=>∃ rv0 rc0,v=rv0∧SlF cI 1 3 rv0 r rc0∧Sep h' lo (rc0++(S0))):=by
 refine Ret.of (fn:=x48) rfl (Run.of ?_)
 unfold qcw at hF
 have zf0:zc [pv0,.int .i64 n_1] 0=pv0:=rfl
 have zf1:zc [pv0,.int .i64 n_1] 1 = .int .i64 n_1:=rfl
 generalize zc [pv0,.int .i64 n_1]=fr0 at zf0 zf1 ⊢
 simp only [x48,qf,qe,qd,qa,qq2,qzn,B0,reduceIte,reduceEqDiff]
 obtain ⟨oc5,hX7,hk8⟩:=ki hF
 simp only [qvp]
 refine qeg (σ:=Int) (fun s47=>qb9 l_0 n_1 s47) (fun s fr' h'=>fr' 0=pv0∧fr' 1 = .int .i64 n_1∧fr' 5 = .int .i64 s∧Sep h' lo (pc0++(S0))) hX7 ⟨zf0,
   zf1,rfl,hS⟩ (fun _ _ _ h=>h) ?_ ?_
 ·rintro s2 fr17 h18 ⟨f20,f21,f22,hS19⟩ oc6 hF9 hr10 Q11 hN12 hK13 hR14 hE15
  unfold qb9 at hF9
  simp only [quw,qf,qe,f22,qd,f20,zw,qb,SlF.plen ph0,qy,qav,B0,reduceIte,reduceEqDiff]
  obtain ⟨v27,hx28,hF29⟩:=qi hF9
  refine z8 7 (fun fr' h'=>Sep h' lo (pc0++(S0))∧fr' 18 = .bool v27∧fr' 0=pv0∧fr' 1 = .int .i64 n_1∧fr' 5 = .int .i64 s2) (fun Q24 hN25=>?_) ?_
  ·simp only [List.take_succ_cons,List.take_zero]
   simp only [qc (g:=11),B0,reduceIte,reduceEqDiff]
   refine zb (t:=(decide (s2<(List.length l_0:Int)))) (fun hg26=>?_) (fun hg26=>?_)
   ·rw [iteT hg26] at hx28
    obtain ⟨x30,hx31,hF32⟩:=qi hx28
    simp only [hg26,qc (g:=11),zk,f20,qd,f22,jz,B0,reduceIte,reduceEqDiff]
    obtain ⟨b33,hb34⟩:=SlF.isrow ph0 (uf hx31)
    refine qh (SlF.ia ph0 hb34 hx31) ?_
    simp only [hg26,qc (g:=11),zk,qn,B0,reduceIte,reduceEqDiff]
    refine qh (v := .int .i64 x30) ((SlF.ld (o:=0) ph0 hS19 hb34 hx31 (fun _=>rfl) (Nat.le_of_ble_eq_true rfl)).trans rfl) ?_
    simp only [hg26,qc (g:=11),zk,f21,qd,qy,qb,qav,qu,zf,qa,qk,B0,reduceIte,reduceEqDiff]
    have e35:=qj hF32
    exact hN25 _ _ ⟨hS19,by rw [←e35]; simp only [B0,reduceIte,reduceEqDiff],f20,f21,f22⟩
   ·rw [iteF hg26] at hx28
    simp only [hg26,qc (g:=11),j5,qu,qb,zg,qa,qk,B0,reduceIte,reduceEqDiff]
    have e36:=qj hx28
    exact hN25 _ _ ⟨hS19,by rw [←e36]; simp only [B0,reduceIte,reduceEqDiff],f20,f21,f22⟩
  rintro fr37 h42 ⟨hS43,f38,f39,f40,f41⟩
  simp only [List.drop_succ_cons,List.drop_zero]
  simp only [qa,f38,q9,B0,reduceIte,reduceEqDiff]
  refine q8 (t:=v27) (fun hc44=>?_) (fun hc44=>?_)
  ·rw [iteT hc44] at hF29
   simp only [zi,ww,qe,f41,qd,qy,qb,qao,qa,xb,qk,B0,reduceIte,reduceEqDiff]
   have e45:=qj hF29
   exact hN12 _ _ _ e45.symm ⟨f39,f40,rfl,hS43⟩
  rw [iteF hc44] at hF29
  simp only [qcf,qbi,qcl,B0,reduceIte,reduceEqDiff]
  have e46:=qj hF29
  exact hK13 _ _ _ e46.symm ⟨f39,f40,f41,hS43⟩
 rintro s48 fr49 h50 rfl ⟨f52,f53,f54,hS51⟩
 dsimp only [jnO] at hk8
 unfold qd2 at hk8
 simp only [qyf,qf,qe,f54,qd,f52,zw,qb,SlF.plen ph0,qy,qav,B0,reduceIte,reduceEqDiff]
 obtain ⟨v58,hx59,hF60⟩:=qi hk8
 refine z8 7 (fun fr' h'=>Sep h' lo (pc0++(S0))∧fr' 32 = .bool v58∧fr' 0=pv0∧fr' 1 = .int .i64 n_1∧fr' 5 = .int .i64 s48) (fun Q55 hN56=>?_) ?_
 ·simp only [List.take_succ_cons,List.take_zero]
  simp only [qc (g:=25),B0,reduceIte,reduceEqDiff]
  refine zb (t:=(decide (s48<(List.length l_0:Int)))) (fun hg57=>?_) (fun hg57=>?_)
  ·rw [iteT hg57] at hx59
   obtain ⟨x61,hx62,hF63⟩:=qi hx59
   simp only [hg57,qc (g:=25),zk,f52,qd,f54,jz,B0,reduceIte,reduceEqDiff]
   obtain ⟨b64,hb65⟩:=SlF.isrow ph0 (uf hx62)
   refine qh (SlF.ia ph0 hb65 hx62) ?_
   simp only [hg57,qc (g:=25),zk,qn,B0,reduceIte,reduceEqDiff]
   refine qh (v := .int .i64 x61) ((SlF.ld (o:=0) ph0 hS51 hb65 hx62 (fun _=>rfl) (Nat.le_of_ble_eq_true rfl)).trans rfl) ?_
   simp only [hg57,qc (g:=25),zk,f53,qd,qy,qb,yo,qu,zf,qa,qk,B0,reduceIte,reduceEqDiff]
   have e66:=qj hF63
   exact hN56 _ _ ⟨hS51,by rw [←e66]; simp only [B0,reduceIte,reduceEqDiff],f52,f53,f54⟩
  ·rw [iteF hg57] at hx59
   simp only [hg57,qc (g:=25),j5,qu,qb,zg,qa,qk,B0,reduceIte,reduceEqDiff]
   have e67:=qj hx59
   exact hN56 _ _ ⟨hS51,by rw [←e67]; simp only [B0,reduceIte,reduceEqDiff],f52,f53,f54⟩
 rintro fr68 h73 ⟨hS74,f69,f70,f71,f72⟩
 simp only [List.drop_succ_cons,List.drop_zero]
 simp only [qa,qvl,f69,q9,B0,reduceIte,reduceEqDiff]
 refine q8 (t:=v58) (fun hc75=>?_) (fun hc75=>?_)
 ·rw [iteT hc75] at hF60
  simp only [qf,qe,f70,qd,qa,qz,B0,reduceIte,reduceEqDiff]
  have he:=qj hF60
  subst he
  simp only [ze,B0,reduceIte,reduceEqDiff]
  exact ⟨pv0,pc0,by first | trivial | rfl,ph0,hS74⟩
 rw [iteF hc75] at hF60
 obtain ⟨l76,hx77,hF78⟩:=qi hF60
 simp only [zi,qvc,qf,qe,qd,qa,qvq,f70,f72,qcm,Option.map_some,Option.map_none,B0,reduceIte,reduceEqDiff]
 obtain ⟨w79,i80,he81,hw82⟩:=SlF.win (f:=cI) (ty:=3) none (some s48) ph0 hx77 hS74
 refine qh he81 ?_
 simp only [wv,B0,reduceIte,reduceEqDiff]
 obtain ⟨l83,hx84,hF85⟩:=qi hF78
 refine yv (f:=cI) SlF.nil hS74 hW (fun _=>rfl) (fun _=>rfl) (SlW.first hw82 ph0 hS74 (fun _=>rfl)) hx84 (fun v86 c87 h88 hv89 hS90=>?_)
 simp only [qd,qa,qv1,qf,qe,f71,kz,evp,B0,reduceIte,reduceEqDiff]
 refine j9 (n:=1) (f:=cI) [n_1] hS90 rfl rfl (fun v92 c93 h94 hv95 hS96=>?_)
 simp only [wv,B0,reduceIte,reduceEqDiff]
 obtain ⟨l98,hx99,hF100⟩:=qi hF85
 refine yv (f:=cI) hv89 (Sep.m1 hS96) hW (fun _=>rfl) (fun _=>rfl) (SlF.first hv95 hS96 (fun _=>rfl)) hx99 (fun v101 c102 h103 hv104 hS105=>?_)
 obtain ⟨l107,hx108,hF109⟩:=qi hF100
 simp only [qd,qa,qw3,qf,qe,f70,f72,qcm,Option.map_some,Option.map_none,B0,reduceIte,reduceEqDiff]
 obtain ⟨w110,i111,he112,hw113⟩:=SlF.win (f:=cI) (ty:=3) (some s48) none ph0 hx108 (Sep.m2 hS105)
 refine qh he112 ?_
 simp only [wv,B0,reduceIte,reduceEqDiff]
 obtain ⟨l114,hx115,hF116⟩:=qi hF109
 refine yv (f:=cI) hv104 hS105 hW (fun _=>rfl) (fun _=>rfl) (SlW.first hw113 ph0 (Sep.m2 hS105) (fun _=>rfl)) hx115 (fun v117 c118 h119 hv120 hS121=>?_)
 simp only [qd,qa,qz,B0,reduceIte,reduceEqDiff]
 have he:=qj hF116
 subst he
 simp only [ze,B0,reduceIte,reduceEqDiff]
 exact ⟨v117,c118,by first | trivial | rfl,hv120,(Sep.dc (Sep.m1 (Sep.dc (Sep.m1 hS121))))⟩
theorem qfd {W:Nat→Bool}{h:Heap} (hW:∀ b,
  (geL h.length) b→W b=true) (g_0:Group) (r:Int) (hF:xx g_0=some r) : Ret E W 49 [.agg [.int .i64 g_0.Epoch,.int .i64 g_0.Leader,lst cI g_0.InStep,
  .int .i64 g_0.High,lst Replica.cells g_0.Replicas]] h (fun v h'=>cut h.length h' E.sz false 9 v=some (.int .i64 r)):=by
 refine Ret.of (fn:=x49) rfl (Run.of ?_)
 unfold xx at hF
 have zf0:zc [.agg [.int .i64 g_0.Epoch,.int .i64 g_0.Leader,lst cI g_0.InStep,.int .i64 g_0.High,lst Replica.cells g_0.Replicas]] 0 = .agg [.int .i64 g_0.Epoch,
   .int .i64 g_0.Leader,lst cI g_0.InStep,.int .i64 g_0.High,lst Replica.cells g_0.Replicas]:=rfl
 generalize zc [.agg [.int .i64 g_0.Epoch,.int .i64 g_0.Leader,lst cI g_0.InStep,.int .i64 g_0.High,lst Replica.cells g_0.Replicas]]=fr0 at zf0 ⊢
 have hS:Sep h (geL h.length) []:=Sep.nil h
 simp only [x49,qf,qe,wu,zf0,B0,reduceIte,reduceEqDiff]
 refine yj (cs:=[.int .i64 g_0.Epoch,.int .i64 g_0.Leader,lst cI g_0.InStep,.int .i64 g_0.High,lst Replica.cells g_0.Replicas]) hS rfl rfl rfl (fun b1 h2 hS3=>?_)
 simp only [qd,qa,B0,reduceIte,reduceEqDiff]
 refine jm hS3 hW (by simp only [B0,reduceIte,reduceEqDiff]) (fun h5 hS6=>?_)
 simp only [jb,qv8,qf,qe,qd,qa,qvt,qt,qb,Nat.reduceAdd,Nat.zero_add,Nat.add_zero,qv,qn,B0,reduceIte,
   reduceEqDiff]
 refine qh (v:=lst cI g_0.InStep) rfl ?_
 simp only [zw,qb,jh,qd,qa,B0,reduceIte,reduceEqDiff]
 obtain ⟨oc11,hX13,hk14⟩:=ki hF
 simp only [qx2]
 refine wq (σ:=Int) g_0.InStep (fun i9 x10 s50=>kc g_0 i9 x10 s50) (fun s fr' h'=>fr' 1 = .ref [.int .i64 g_0.Epoch,.int .i64 g_0.Leader,
   lst cI g_0.InStep,.int .i64 g_0.High,lst Replica.cells g_0.Replicas] 0∧fr' 3 = .int .i64 s∧fr' 8=lst cI g_0.InStep∧Sep h' (geL h.length) ([])) hX13 ⟨rfl,rfl,rfl,
   hS6⟩ (by simp only [B0,reduceIte,reduceEqDiff]) (by simp only [B0,reduceIte,
   reduceEqDiff]) (fun _ _ _ h=>h) rfl rfl (fun _ _ _ _ h=>h) (fun _ _ _ _ h=>h) (fun _ _ _ _ h=>h) (by decide) ?_ ?_
 ·rintro i9 x10 s8 fr23 h24 hx29 ⟨f26,f27,f28,hS25⟩ f30 f31 oc12 hF15 hr16 Q17 hN18 hB22 hK19 hR20 hE21
  unfold kc at hF15
  simp only [qvx,qf,qe,f28,f30,jz,B0,reduceIte,reduceEqDiff]
  refine qh (v := .ref (cI x10) 0) (wn hx29 rfl) ?_
  simp only [qn,B0,reduceIte,reduceEqDiff]
  refine qh (v := .int .i64 x10) rfl ?_
  simp only [qd,qa,qya,qf,qe,f26,qt,qb,Nat.reduceAdd,Nat.zero_add,Nat.add_zero,qv,qn,B0,reduceIte,reduceEqDiff]
  refine qh (v:=lst Replica.cells g_0.Replicas) rfl ?_
  obtain ⟨x32,hx33,hF34⟩:=qi hF15
  simp only [qd,jz,B0,reduceIte,reduceEqDiff]
  refine qh (v := .ref (Replica.cells x32) 0) (y8 hx33 rfl) ?_
  simp only [qn,B0,reduceIte,reduceEqDiff]
  refine qh (v := .agg [lst Row.cells x32.Log,.int .i64 x32.Epoch,.int .i64 x32.Known]) rfl ?_
  simp only [jt,B0,reduceIte,reduceEqDiff]
  refine jc hS25 (fun b35 h36 hS37=>?_)
  simp only [zm,B0,reduceIte,reduceEqDiff]
  refine za (us:=[lst Row.cells x32.Log,.int .i64 x32.Epoch,.int .i64 x32.Known]) rfl (cs':=[lst Row.cells x32.Log,.int .i64 x32.Epoch,
    .int .i64 x32.Known]) hS37 hW rfl rfl (Nat.le_of_ble_eq_true rfl) rfl (fun h39 hS40=>?_)
  simp only [qa,B0,reduceIte,reduceEqDiff]
  refine jm hS40 hW (by simp only [B0,reduceIte,reduceEqDiff]) (fun h41 hS42=>?_)
  simp only [jb,quy,qf,qe,qt,qb,Nat.reduceAdd,Nat.zero_add,Nat.add_zero,qv,qn,B0,reduceIte,reduceEqDiff]
  refine qh (v := .int .i64 x32.Epoch) rfl ?_
  simp only [f26,qt,qb,Nat.reduceAdd,Nat.zero_add,Nat.add_zero,qv,qn,B0,reduceIte,reduceEqDiff]
  refine qh (v := .int .i64 g_0.Epoch) rfl ?_
  simp only [qy,qb,xk,qa,q9,B0,reduceIte,reduceEqDiff]
  refine q8 (t:=(decide (x32.Epoch≠g_0.Epoch))) (fun hc43=>?_) (fun hc43=>?_)
  ·rw [iteT hc43] at hF34
   simp only [qf,qe,qd,qa,qz,B0,reduceIte,reduceEqDiff]
   have e44:=qj hF34
   subst e44
   have ho45:=hr16 _ rfl
   have hk46:=hk14
   rw [ho45] at hk46
   dsimp only [jnO] at hk46
   apply hR20
   have he:=qj hk46
   subst he
   simp only [ze,B0,reduceIte,reduceEqDiff]
   exact rfl
  rw [iteF hc43] at hF34
  simp only [zi,qxv,qf,qe,qt,qb,Nat.reduceAdd,Nat.zero_add,Nat.add_zero,qv,qn,B0,reduceIte,reduceEqDiff]
  refine qh (v := .int .i64 x32.Known) rfl ?_
  simp only [f27,qd,qy,qb,qav,qa,qvk,q9,B0,reduceIte,reduceEqDiff]
  refine q8 (t:=(decide (x32.Known<s8))) (fun hc47=>?_) (fun hc47=>?_)
  ·rw [iteT hc47] at hF34
   simp only [qe,qt,qb,Nat.reduceAdd,Nat.zero_add,Nat.add_zero,qv,qn,B0,reduceIte,reduceEqDiff]
   refine qh (v := .int .i64 x32.Known) rfl ?_
   simp only [qd,qa,qk,B0,reduceIte,reduceEqDiff]
   have e48:=qj hF34
   exact hN18 _ _ _ e48.symm ⟨f26,rfl,f28,hS42⟩ (f30) (f31)
  rw [iteF hc47] at hF34
  simp only [zi,qk,B0,reduceIte,reduceEqDiff]
  have e49:=qj hF34
  exact hN18 _ _ _ e49.symm ⟨f26,f27,f28,hS42⟩ (f30) (f31)
 rintro s51 fr52 h53 rfl ⟨f55,f56,f57,hS54⟩
 dsimp only [jnO] at hk14
 unfold qex at hk14
 simp only [qf,qe,f56,qd,qa,qz,B0,reduceIte,reduceEqDiff]
 have he:=qj hk14
 subst he
 simp only [ze,B0,reduceIte,reduceEqDiff]
 exact rfl
theorem qkw {W:Nat→Bool}{h:Heap} (hW:∀ b,
  (geL h.length) b→W b=true) (l_0:List Int) (n_1:Int) (r:Bool) (hF:qcx l_0 n_1=some r) : Ret E W 74 [lst cI l_0,
  .int .i64 n_1] h (fun v h'=>cut h.length h' E.sz false 9 v=some (.bool r)):=by
 refine Ret.of (fn:=x74) rfl (Run.of ?_)
 unfold qcx at hF
 have zf0:zc [lst cI l_0,.int .i64 n_1] 0=lst cI l_0:=rfl
 have zf1:zc [lst cI l_0,.int .i64 n_1] 1 = .int .i64 n_1:=rfl
 generalize zc [lst cI l_0,.int .i64 n_1]=fr0 at zf0 zf1 ⊢
 have hS:Sep h (geL h.length) []:=Sep.nil h
 simp only [x74,qf,qe,qd,qa,qzr,zf0,zw,qb,jh,B0,reduceIte,reduceEqDiff]
 obtain ⟨oc3,hX5,hk6⟩:=ki hF
 simp only [qx8]
 refine wq (σ:=Unit) l_0 (fun i1 x2 _=>qcc n_1 i1 x2 ) (fun s fr' h'=>fr' 1 = .int .i64 n_1∧fr' 7=lst cI l_0∧Sep h' (geL h.length) ([])) hX5 ⟨zf1,
   rfl,hS⟩ (by simp only [B0,reduceIte,reduceEqDiff]) (by simp only [B0,reduceIte,
   reduceEqDiff]) (fun _ _ _ h=>h) rfl rfl (fun _ _ _ _ h=>h) (fun _ _ _ _ h=>h) (fun _ _ _ _ h=>h) (by decide) ?_ ?_
 ·rintro i1 x2 _ fr15 h16 hx20 ⟨f18,f19,hS17⟩ f21 f22 oc4 hF7 hr8 Q9 hN10 hB14 hK11 hR12 hE13
  unfold qcc at hF7
  simp only [qxw,qf,qe,f19,f21,jz,B0,reduceIte,reduceEqDiff]
  refine qh (v := .ref (cI x2) 0) (wn hx20 rfl) ?_
  simp only [qn,B0,reduceIte,reduceEqDiff]
  refine qh (v := .int .i64 x2) rfl ?_
  simp only [qd,qa,qt9,qf,qe,f18,qy,qb,yo,q9,B0,reduceIte,reduceEqDiff]
  refine q8 (t:=(decide (x2=n_1))) (fun hc23=>?_) (fun hc23=>?_)
  ·rw [iteT hc23] at hF7
   simp only [qf,qe,qd,qa,qz,B0,reduceIte,reduceEqDiff]
   have e24:=qj hF7
   subst e24
   have ho25:=hr8 _ rfl
   have hk26:=hk6
   rw [ho25] at hk26
   dsimp only [jnO] at hk26
   apply hR12
   have he:=qj hk26
   subst he
   simp only [ze,B0,reduceIte,reduceEqDiff]
   exact rfl
  rw [iteF hc23] at hF7
  simp only [zi,qk,B0,reduceIte,reduceEqDiff]
  have e27:=qj hF7
  exact hN10 _ _ _ e27.symm ⟨f18,f19,hS17⟩ (f21) (f22)
 rintro _ fr29 h30 rfl ⟨f32,f33,hS31⟩
 dsimp only [jnO] at hk6
 unfold qgo at hk6
 simp only [qf,qe,qd,qa,qz,B0,reduceIte,reduceEqDiff]
 have he:=qj hk6
 subst he
 simp only [ze,B0,reduceIte,reduceEqDiff]
 exact rfl
end Go.Proofs.Ytefgfcalgjmhjaa.X
