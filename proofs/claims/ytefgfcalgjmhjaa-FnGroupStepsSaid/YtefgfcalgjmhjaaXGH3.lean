/- The functions' code comes to what the plain functions say (3). -/
import Derived.Test.YtefgfcalgjmhjaaXGH2
set_option linter.unusedVariables false
set_option linter.unusedSimpArgs false
set_option maxRecDepth 100000
namespace Go.Proofs.Ytefgfcalgjmhjaa.X
open Go
open Nat (reduceEqDiff)
theorem qbg {W:Nat→Bool}{h:Heap}{lo:Nat→Prop}{S0:List Obj} (hW:∀ b,
  lo b→W b=true) (pb0:Nat) (g_0:Group) (pv0_2:XV) (pc0_2:List Obj) (ph0_2:SlF cI 1 3 pv0_2 g_0.InStep pc0_2) (pv0_4:XV) (pc0_4:List Obj)
  (ph0_4:SlN Replica.R 3 51 pv0_4 g_0.Replicas pc0_4) (k_1:Int) (r:Group) (hF:kr g_0 k_1=some r) (hS:Sep h lo ([Blk1 pb0 [.int .i64 g_0.Epoch,
  .int .i64 g_0.Leader,pv0_2,.int .i64 g_0.High,pv0_4] 29]++(pc0_2++(pc0_4++(S0))))) : Ret E W 54 [.ptr pb0 0,.int .i64 k_1] h (fun v h'=>∃ ic0_2 ic0_4,
  v = .tup []∧SlF cI 1 3 pv0_2 r.InStep ic0_2∧SlN Replica.R 3 51 pv0_4 r.Replicas ic0_4∧Sep h' lo ([Blk1 pb0 [.int .i64 r.Epoch,.int .i64 r.Leader,pv0_2,
  .int .i64 r.High,pv0_4] 29]++(ic0_2++(ic0_4++(S0))))):=by
 refine Ret.of (fn:=x54) rfl (Run.of ?_)
 unfold kr at hF
 have zf0:ze [.ptr pb0 0,.int .i64 k_1] 0 = .ptr pb0 0:=rfl
 have zf1:ze [.ptr pb0 0,.int .i64 k_1] 1 = .int .i64 k_1:=rfl
 generalize ze [.ptr pb0 0,.int .i64 k_1]=fr0 at zf0 zf1 ⊢
 simp only [x54,qe,jh,zf0,zp,qg,k9,ja,zq,Nat.reduceAdd,Nat.zero_add,Nat.add_zero,qw,zm,B0,reduceIte,reduceEqDiff]
 refine qq (v:=pv0_4) ((zu (Sep.bk _ _ _ hS)).trans rfl) ?_
 simp only [zf1,zp,qg,zf0,k9,ja,zq,Nat.reduceAdd,Nat.zero_add,Nat.add_zero,qw,zm,B0,reduceIte,reduceEqDiff]
 refine qq (v := .int .i64 g_0.Epoch) ((zu (Sep.bk _ _ _ hS)).trans rfl) ?_
 obtain ⟨x1,hx2,hF3⟩:=qi hF
 simp only [wo,B0,reduceIte,reduceEqDiff]
 obtain ⟨b4,hb5⟩:=SlN.isrow ph0_4 (ur hx2)
 refine qq (SlN.ia ph0_4 hb5 hx2) ?_
 obtain ⟨c8,cs9,os10,hv11,hR12,hS13⟩:=SlG.opn (SlN.toG ph0_4 hb5 Replica.RO.len) hx2 jk Replica.RO.len (Sep.m2 hS)
 obtain ⟨v15,c16,hv17,rfl,rfl⟩:=hR12
 have hS14:=Sep.no1 hS13
 simp only [zq,qg,Nat.reduceAdd,Nat.zero_add,Nat.add_zero,qw,qdj,B0,reduceIte,reduceEqDiff]
 refine qfj (n:=3) (us:=[.int .i64 g_0.Epoch]) (cs:=[v15,.int .i64 x1.Epoch,.int .i64 x1.Known]) (o:=1) (cs':=[v15,.int .i64 g_0.Epoch,
   .int .i64 x1.Known]) rfl hv11 rfl hx2 hS14 hW rfl rfl (Nat.le_of_ble_eq_true rfl) rfl (fun c19 h6 hv20 hS7=>?_)
 simp only [qu,qzf,jh,zf0,zp,qg,k9,ja,zq,Nat.reduceAdd,Nat.zero_add,Nat.add_zero,qw,zm,B0,reduceIte,reduceEqDiff]
 refine qq (v:=pv0_4) ((zu (Sep.bk _ _ _ (Sep.m2 hS7))).trans rfl) ?_
 simp only [zf1,zp,qg,zf0,k9,ja,zq,Nat.reduceAdd,Nat.zero_add,Nat.add_zero,qw,zm,B0,reduceIte,reduceEqDiff]
 refine qq (v:=pv0_4) ((zu (Sep.bk _ _ _ (Sep.m2 hS7))).trans rfl) ?_
 simp only [zf1,zp,qg,wo,B0,reduceIte,reduceEqDiff]
 refine qq (SlG.ia hv20 hx2) ?_
 simp only [zq,qg,Nat.reduceAdd,Nat.zero_add,Nat.add_zero,qw,zm,B0,reduceIte,reduceEqDiff]
 refine qq (v:=v15) ((SlG.ld (o:=0) hv20 rfl hx2 hS7 (Nat.le_of_ble_eq_true rfl)).trans rfl) ?_
 simp only [qd2,qg,SlF.plen hv17,wo,B0,reduceIte,reduceEqDiff]
 refine qq (SlG.ia hv20 hx2) ?_
 simp only [zq,qg,Nat.reduceAdd,Nat.zero_add,Nat.add_zero,qw,qdj,B0,reduceIte,reduceEqDiff]
 refine qfj (n:=3) (us:=[.int .i64 (List.length x1.Log:Int)]) (cs:=[v15,.int .i64 g_0.Epoch,.int .i64 x1.Known]) (o:=2) (cs':=[v15,.int .i64 g_0.Epoch,
   .int .i64 (List.length x1.Log:Int)]) rfl hv20 rfl hx2 hS7 hW rfl rfl (Nat.le_of_ble_eq_true rfl) rfl (fun c23 h21 hv24 hS22=>?_)
 simp only [qu,qo,B0,reduceIte,reduceEqDiff]
 obtain ⟨c25,hv26,hS27⟩:=SlG.cls (e':=(Replica.mk x1.Log g_0.Epoch (List.length x1.Log:Int))) (c:=c23) (os:=c16) hv24 rfl hx2 jk (Replica.RI (x :=
   (Replica.mk x1.Log g_0.Epoch (List.length x1.Log:Int))) hv17) (Sep.m1 (Sep.m1 hS22))
 have hx28:=qcm (x':=(Replica.mk x1.Log g_0.Epoch (List.length x1.Log:Int))) hx2
 have hv29:=SlG.toN hv26
 have he:=ql hF3
 subst he
 simp only [qmx,B0,reduceIte,reduceEqDiff]
 exact ⟨pc0_2,c25,by first | trivial | rfl,ph0_2,hv29,(Sep.m2 (Sep.m2 hS27))⟩
theorem qe2 {W:Nat→Bool}{h:Heap}{lo:Nat→Prop}{S0:List Obj} (hW:∀ b,
  lo b→W b=true) (k:Nat) (pb0:Nat) (g_0:Group) (pv0_2:XV) (pc0_2:List Obj) (ph0_2:SlF cI 1 3 pv0_2 g_0.InStep pc0_2) (pv0_4:XV) (pc0_4:List Obj)
  (ph0_4:SlN Replica.R 3 51 pv0_4 g_0.Replicas pc0_4) (k_1:Int) (many_2:Int) (r:Group) (hF:yp k g_0 k_1 many_2=some r) (hS:Sep h lo
  ([Blk1 pb0 [.int .i64 g_0.Epoch,.int .i64 g_0.Leader,pv0_2,.int .i64 g_0.High,pv0_4] 29]++(pc0_2++(pc0_4++(S0))))) : Ret E W 55 [.ptr pb0 0,.int .i64 k_1,
  .int .i64 many_2] h (fun v h'=>∃ ic0_2 ic0_4,
  v = .tup []∧SlF cI 1 3 pv0_2 r.InStep ic0_2∧SlN Replica.R 3 51 pv0_4 r.Replicas ic0_4∧Sep h' lo ([Blk1 pb0 [.int .i64 r.Epoch,.int .i64 r.Leader,pv0_2,
  .int .i64 r.High,pv0_4] 29]++(ic0_2++(ic0_4++(S0))))):=by
 refine Ret.of (fn:=x55) rfl (Run.of ?_)
 unfold yp at hF
 have zf0:ze [.ptr pb0 0,.int .i64 k_1,.int .i64 many_2] 0 = .ptr pb0 0:=rfl
 have zf1:ze [.ptr pb0 0,.int .i64 k_1,.int .i64 many_2] 1 = .int .i64 k_1:=rfl
 have zf2:ze [.ptr pb0 0,.int .i64 k_1,.int .i64 many_2] 2 = .int .i64 many_2:=rfl
 generalize ze [.ptr pb0 0,.int .i64 k_1,.int .i64 many_2]=fr0 at zf0 zf1 zf2 ⊢
 simp only [x55,qe,qd,zf0,qc,wl,qb,ja,qp,B0,reduceIte,reduceEqDiff]
 refine qj (v := .agg [.int .i64 g_0.Epoch,.int .i64 g_0.Leader,pv0_2,.int .i64 g_0.High,pv0_4]) ((zv (Sep.bk _ _ _ hS)).trans rfl) ?_
 obtain ⟨v1,hx2,hF3⟩:=qi hF
 simp only [zf1,qc,za,B0,reduceIte,reduceEqDiff]
 refine js rfl (qh (jd (qh qm (qh qm (qh (SlF.snap ph0_2 (Sep.m1 hS) rfl (fun _=>rfl) (fun _=>rfl)) (qh qm (qh (SlN.snap ph0_4 _
   (Sep.m2 hS) rfl Replica.RO) qz)))))) (qh qm qz)) (x8 (fun b hb=>decide_eq_true hb) k g_0 k_1 v1 hx2) ?_
 simp only [qc,qa,q2r,qe,jh,zf0,zp,qg,k9,ja,zq,Nat.reduceAdd,Nat.zero_add,Nat.add_zero,qw,zm,B0,
   reduceIte,reduceEqDiff]
 refine qq (v:=pv0_4) ((zu (Sep.bk _ _ _ hS)).trans rfl) ?_
 simp only [zf0,zp,qg,k9,ja,zq,Nat.reduceAdd,Nat.zero_add,Nat.add_zero,qw,zm,B0,reduceIte,reduceEqDiff]
 refine qq (v := .int .i64 g_0.Leader) ((zu (Sep.bk _ _ _ hS)).trans rfl) ?_
 obtain ⟨x4,hx5,hF6⟩:=qi hF3
 simp only [wo,B0,reduceIte,reduceEqDiff]
 obtain ⟨b7,hb8⟩:=SlN.isrow ph0_4 (ur hx5)
 refine qq (SlN.ia ph0_4 hb8 hx5) ?_
 obtain ⟨c9,cs10,os11,hv12,hR13,hS14⟩:=SlG.opn (SlN.toG ph0_4 hb8 Replica.RO.len) hx5 jk Replica.RO.len (Sep.m2 hS)
 obtain ⟨v16,c17,hv18,rfl,rfl⟩:=hR13
 have hS15:=Sep.no1 hS14
 simp only [zq,qg,Nat.reduceAdd,Nat.zero_add,Nat.add_zero,qw,zm,B0,reduceIte,reduceEqDiff]
 refine qq (v:=v16) ((SlG.ld (o:=0) hv12 rfl hx5 hS15 (Nat.le_of_ble_eq_true rfl)).trans rfl) ?_
 obtain ⟨l20,hx21,hF22⟩:=qi hF6
 simp only [zp,qg,qg9,Option.map_some,Option.map_none,B0,reduceIte,reduceEqDiff]
 obtain ⟨w23,i24,he25,hw26⟩:=SlF.win (f:=Row.cells) (ty:=98) (some v1) none hv18 hx21 (Sep.m1 hS15)
 refine qq he25 ?_
 simp only [zp,qg,qu,qwq,qe,qd,zf0,qc,wl,qb,ja,qs,Nat.reduceAdd,Nat.zero_add,Nat.add_zero,qw,
   qp,B0,reduceIte,reduceEqDiff]
 refine qj (v:=pv0_4) ((zu (Sep.bk _ _ _ (Sep.m2 hS15))).trans rfl) ?_
 obtain ⟨x27,hx28,hF29⟩:=qi hF22
 simp only [zf1,qc,j0,B0,reduceIte,reduceEqDiff]
 refine qj (SlG.ia hv12 hx28) ?_
 simp only [qc,qa,q1n,qe,jh,qj9,qg,qcw,evp,B0,reduceIte,reduceEqDiff]
 refine ux (n:=2) (f:=Row.cells) ([] : List Row) hS15 rfl rfl (fun v30 c31 h32 hv33 hS34=>?_)
 obtain ⟨hp36,hF37⟩:=qiq hF29
 have hn38:=qyr hp36 hx5 hx28
 obtain ⟨c39,cs40,os41,hv42,hR43,hS44⟩:=SlG.opn hv12 hx28 ((qgj hn38).trans jk) Replica.RO.len (Sep.m1 hS34)
 obtain ⟨v46,c47,hv48,rfl,rfl⟩:=hR43
 have hS45:=Sep.no1 hS44
 simp only [zp,qg,k9,ja,zq,Nat.reduceAdd,Nat.zero_add,Nat.add_zero,qw,zm,B0,reduceIte,reduceEqDiff]
 refine qq (v:=v46) ((SlG.ld (o:=0) hv42 rfl hx28 hS45 (Nat.le_of_ble_eq_true rfl)).trans rfl) ?_
 obtain ⟨l50,hx51,hF52⟩:=qi hF37
 simp only [zp,qg,qg9,Option.map_some,Option.map_none,B0,reduceIte,reduceEqDiff]
 obtain ⟨w53,i54,he55,hw56⟩:=SlF.win (f:=Row.cells) (ty:=98) none (some v1) hv48 hx51 (Sep.m1 hS45)
 refine qq he55 ?_
 simp only [qg7,B0,reduceIte,reduceEqDiff]
 obtain ⟨l57,hx58,hF59⟩:=qi hF52
 refine qbt (f:=Row.cells) hv33 (Sep.m2 hS45) hW (fun _=>rfl) (fun _=>rfl) (SlW.first hw56 hv48 (Sep.m1 hS45) (fun _=>rfl)) hx58 (fun v60 c61 h62 hv63 hS64=>?_)
 obtain ⟨l66,hx67,hF68⟩:=qi hF59
 simp only [qj9,qg,zf2,qsd,SlW.plen hw26 hv18,q5t,qo9,q5c,Option.map_some,Option.map_none,B0,reduceIte,reduceEqDiff]
 obtain ⟨w69,i70,he71,hw72⟩:=SlW.win (ty:=98) none (some (mnI many_2 (List.length l20:Int))) hw26 hv18 hx67 (Sep.m3 hS64)
 refine qq he71 ?_
 simp only [qg7,B0,reduceIte,reduceEqDiff]
 obtain ⟨l73,hx74,hF75⟩:=qi hF68
 refine qbt (f:=Row.cells) hv63 hS64 hW (fun _=>rfl) (fun _=>rfl) (SlW.first hw72 hv18 (Sep.m3 hS64) (fun _=>rfl)) hx74 (fun v76 c77 h78 hv79 hS80=>?_)
 simp only [k9,qg,ja,zq,Nat.reduceAdd,Nat.zero_add,Nat.add_zero,qw,qdj,B0,reduceIte,reduceEqDiff]
 refine qfj (n:=3) (us:=[v76]) (cs:=[v46,.int .i64 x27.Epoch,.int .i64 x27.Known]) (o:=0) (cs':=[v76,.int .i64 x27.Epoch,
   .int .i64 x27.Known]) (k5 (SlF.one hv79)) hv42 rfl hx28 (Sep.m1 hS80) hW rfl (qk (SlF.one hv79) zn) (Nat.le_of_ble_eq_true rfl) rfl (fun c84 h82 hv85 hS83=>?_)
 obtain ⟨c86,hv87,hS88⟩:=SlG.cls (e':=(Replica.mk l73 x27.Epoch x27.Known)) (c:=c84) (os:=c77) hv85 rfl hx28 ((qgj hn38).trans jk) (Replica.RI (x :=
   (Replica.mk l73 x27.Epoch x27.Known)) hv79) (Sep.m1 (Sep.m1 hS83))
 have hx89:=qcm (x':=(Replica.mk l73 x27.Epoch x27.Known)) hx28
 have hx90:=qiw (e:=(Replica.mk l73 x27.Epoch x27.Known)) hx5 (Ne.symm hn38)
 obtain ⟨c91,hv92,hS93⟩:=SlG.cls0 (c:=c86) (os:=c17) hv87 rfl hx90 jk (Replica.RI (x:=x4) hv18) (Sep.m1 (Sep.m2 hS88))
 have hv94:=SlG.toN hv92
 obtain ⟨v95,hx96,hF97⟩:=qi hF75
 simp only [qu,qd,zf0,qc,zf1,za,B0,reduceIte,reduceEqDiff]
 refine ku rfl (qbg hW pb0 (Group.mk g_0.Epoch g_0.Leader g_0.InStep g_0.High (List.set g_0.Replicas k_1.toNat
   (Replica.mk l73 x27.Epoch x27.Known))) pv0_2 pc0_2 ph0_2 pv0_4 c91 hv94 k_1 v95 hx96 (Sep.m3 (Sep.m3 hS93))) ?_
 rintro _ h102 ⟨c98,c100,rfl,hv99,hv101,hS103⟩
 simp only [qa,qo,B0,reduceIte,reduceEqDiff]
 have he:=ql hF97
 subst he
 simp only [qmx,B0,reduceIte,reduceEqDiff]
 exact ⟨c98,c100,by first | trivial | rfl,hv99,hv101,(Sep.m2 (Sep.m2 (Sep.m2 (Sep.dc (Sep.m3 hS103)))))⟩
theorem qic {W:Nat→Bool}{h:Heap} (hW:∀ b,
  (geL h.length) b→W b=true) (k:Nat) (g_0:Group) (r:Group × Int × Bool) (hF:wz k g_0=some r) : Ret E W 11 [.agg [.int .i64 g_0.Epoch,
  .int .i64 g_0.Leader,lst cI g_0.InStep,.int .i64 g_0.High,lst Replica.cells g_0.Replicas]] h (fun v h'=>∃ rv0_2 rc0_2 rv0_4 rc0_4,v = .tup [.agg [.int .i64 r.1.Epoch,
  .int .i64 r.1.Leader,rv0_2,.int .i64 r.1.High,rv0_4],.int .i64 r.2.1,
  .bool r.2.2]∧SlF cI 1 3 rv0_2 r.1.InStep rc0_2∧SlN Replica.R 3 51 rv0_4 r.1.Replicas rc0_4∧Sep h' (geL h.length) (rc0_2++(rc0_4++([])))):=by
 refine Ret.of (fn:=x11) rfl (Run.of ?_)
 unfold wz at hF
 have zf0:ze [.agg [.int .i64 g_0.Epoch,.int .i64 g_0.Leader,lst cI g_0.InStep,.int .i64 g_0.High,lst Replica.cells g_0.Replicas]] 0 = .agg [.int .i64 g_0.Epoch,
   .int .i64 g_0.Leader,lst cI g_0.InStep,.int .i64 g_0.High,lst Replica.cells g_0.Replicas]:=rfl
 generalize ze [.agg [.int .i64 g_0.Epoch,.int .i64 g_0.Leader,lst cI g_0.InStep,.int .i64 g_0.High,lst Replica.cells g_0.Replicas]]=fr0 at zf0 ⊢
 have hS:Sep h (geL h.length) []:=Sep.nil h
 simp only [x11,qe,qd,kp,zf0,B0,reduceIte,reduceEqDiff]
 refine jz (cs:=[.int .i64 g_0.Epoch,.int .i64 g_0.Leader,lst cI g_0.InStep,.int .i64 g_0.High,lst Replica.cells g_0.Replicas]) hS rfl rfl rfl (fun b1 h2 hS3=>?_)
 simp only [je,B0,reduceIte,reduceEqDiff]
 refine zt hS3 (fun b5 h6 hS7=>?_)
 simp only [qc,qa,B0,reduceIte,reduceEqDiff]
 refine zz (Sep.m1 hS7) hW (by simp only [B0,reduceIte,reduceEqDiff]) (fun h9 hS10=>?_)
 simp only [zw,qtv,qe,qd,qp,B0,reduceIte,reduceEqDiff]
 refine qj (v := .agg [.int .i64 g_0.Epoch,.int .i64 g_0.Leader,lst cI g_0.InStep,.int .i64 g_0.High,lst Replica.cells g_0.Replicas]) rfl ?_
 obtain ⟨v11,hx12,hF13⟩:=qi hF
 simp only [za,B0,reduceIte,reduceEqDiff]
 refine js rfl (qh (jd (qh qm (qh qm (qh zo (qh qm (qh zo qz)))))) qz) (qbr
   (fun b hb=>decide_eq_true hb) k g_0 v11 hx12) ?_
 simp only [ka,qb,kx,qa,qym,zb,B0,reduceIte,reduceEqDiff]
 refine zd (t:=(!v11)) (fun hc14=>?_) (fun hc14=>?_)
 ·rw [iteT hc14] at hF13
  simp only [qy2,qe,qd,run_build,evp,B0,reduceIte,reduceEqDiff]
  refine qj (v := .agg [.int .i64 0,.int .i64 0,.nil,.int .i64 0,.nil]) rfl ?_
  simp only [zg,B0,reduceIte,reduceEqDiff]
  refine qy (us:=[.int .i64 0,.int .i64 0,.nil,.int .i64 0,.nil]) rfl (cs':=[.int .i64 0,.int .i64 0,.nil,.int .i64 0,
    .nil]) hS10 hW rfl rfl (Nat.le_of_ble_eq_true rfl) rfl (fun h15 hS16=>?_)
  simp only [qc,qa,q8,B0,reduceIte,reduceEqDiff]
  have he:=ql hF13
  subst he
  refine jy (qh (j6 (bb:=b5) (oo:=0) (v := .agg [.int .i64 0,.int .i64 0,.nil,.int .i64 0,
    .nil]) (rfl) ((zv (Sep.bk _ _ _ hS16)).trans rfl)) (qh (yq (v := .int .i64 0) (rfl)) (qh (yq (v := .bool false) (rfl)) qz))) ?_
  exact ⟨.nil,[],.nil,[],by first | trivial | rfl,SlF.nil,SlN.nil,((Sep.dc (hS16)) : Sep _ (geL h.length) ([]))⟩
 rw [iteF hc14] at hF13
 simp only [zk,qp8,qe,qd,qp,B0,reduceIte,reduceEqDiff]
 refine qj (v := .agg [.int .i64 g_0.Epoch,.int .i64 g_0.Leader,lst cI g_0.InStep,.int .i64 g_0.High,lst Replica.cells g_0.Replicas]) rfl ?_
 obtain ⟨v17,hx18,hF19⟩:=qi hF13
 simp only [za,B0,reduceIte,reduceEqDiff]
 refine uo rfl hS10 (qh (jd (qh qm (qh qm (qh zo (qh qm (qh zo qz)))))) qz) (qf5
   (fun b hb=>decide_eq_true hb) g_0 v17 hx18) ?_
 rintro _ h28 ⟨v20,c21,v24,c25,rfl,hv22,hv26,hS29⟩
 refine ⟨_,qcg (qk rfl (qk rfl (qk (SlF.free1 hv22) (qk rfl (qk (SlN.free1 hv26) zn))))),hS29,
   (jt (SlF.pf hv22 (fun _=>rfl)) (jt (SlN.pf hv26 Replica.RO) wi)),fun h30 hS31=>?_⟩
 have hS32:Sep h30 (geL h.length) (c21++(c25++([Blk1 b5 [.int .i64 0,.int .i64 0,.nil,.int .i64 0,.nil] 29]++([])))):=by simpa only [List.append_assoc,
   List.nil_append] using hS31
 simp only [je,B0,reduceIte,reduceEqDiff]
 refine zt hS32 (fun b33 h34 hS35=>?_)
 simp only [zg,B0,reduceIte,reduceEqDiff]
 refine qy (us:=[.int .i64 v17.Epoch,.int .i64 v17.Leader,v20,.int .i64 v17.High,v24]) rfl (cs':=[.int .i64 v17.Epoch,.int .i64 v17.Leader,v20,
   .int .i64 v17.High,v24]) hS35 hW rfl (qk rfl (qk rfl (qk (SlF.one hv22) (qk rfl (qk (SlN.one hv26) zn))))) (Nat.le_of_ble_eq_true rfl) rfl
   (fun h37 hS38=>?_)
 simp only [qa,qsm,qe,qd,qs,qb,Nat.reduceAdd,Nat.zero_add,Nat.add_zero,qw,zg,B0,reduceIte,reduceEqDiff]
 refine qy (us:=[.nil]) rfl (cs':=[.int .i64 v17.Epoch,.int .i64 v17.Leader,.nil,.int .i64 v17.High,
   v24]) hS38 hW rfl rfl (Nat.le_of_ble_eq_true rfl) rfl (fun h39 hS40=>?_)
 simp only [qa,qqj,qe,qd,qs,qb,Nat.reduceAdd,Nat.zero_add,Nat.add_zero,qw,qp,B0,reduceIte,reduceEqDiff]
 refine qj (v:=v24) ((zu (Sep.bk _ _ _ hS40)).trans rfl) ?_
 simp only [jb,qb,SlN.len hv26,qc,qa,B0,reduceIte,reduceEqDiff]
 obtain ⟨oc59,hX61,hk62⟩:=kq hF19
 simp only [qxa]
 refine qei (σ:=Group × (List Replica)) (fun i57 s144=>y8 k i57 s144.1 s144.2) (fun s fr' h'=>∃ v51 c52 c55,fr' 1 = .ref [.int .i64 g_0.Epoch,
   .int .i64 g_0.Leader,lst cI g_0.InStep,.int .i64 g_0.High,
   lst Replica.cells g_0.Replicas] 0∧fr' 2 = .ptr b5 0∧fr' 5 = .ptr b33 0∧SlF cI 1 3 v51 s.1.InStep c52∧SlN Replica.R 3 51 v24 s.2 c55∧Sep h' (geL h.length)
   ([Blk1 b5 [.int .i64 0,.int .i64 0,.nil,.int .i64 0,.nil] 29]++([Blk1 b33 [.int .i64 s.1.Epoch,.int .i64 s.1.Leader,v51,.int .i64 s.1.High,
   v24] 29]++(c52++(c55++([])))))) hX61 ⟨.nil,[],c25,rfl,rfl,rfl,SlF.nil,hv26,
   ((Sep.m2 (Sep.m1 (Sep.m1 (Sep.dc (Sep.m1 hS40))))) : Sep _ (geL h.length) ([Blk1 b5 [.int .i64 0,.int .i64 0,.nil,.int .i64 0,
   .nil] 29]++([Blk1 b33 [.int .i64 v17.Epoch,.int .i64 v17.Leader,.nil,.int .i64 v17.High,v24] 29]++(c25++([])))))⟩ (by simp only [B0,reduceIte,
   reduceEqDiff]) (by simp only [B0,reduceIte,reduceEqDiff]) (fun _ _ _ h=>h) rfl rfl (fun _ _ _ _ h=>h) (fun _ _ _ _ h=>h) (fun _ _ _ _ h=>h) (by decide) ?_ ?_
 ·rintro i57 ⟨s49,s54⟩ fr71 h72 hx77 ⟨v51,c52,c55,f74,f75,f76,hv53,hv56,hS73⟩ f78 f79 oc60 hF63 hr64 Q65 hN66 hB70 hK67 hR68 hE69
  dsimp only at *
  unfold y8 at hF63
  simp only [qv2,qe,qd,f78,qc,qa,q1j,f76,qs,qb,Nat.reduceAdd,Nat.zero_add,Nat.add_zero,qw,qp,B0,reduceIte,
    reduceEqDiff]
  refine qj (v := .int .i64 s49.Leader) ((zu (Sep.bk _ _ _ (Sep.m1 hS73))).trans rfl) ?_
  simp only [q9,qb,yd,qa,qyy,zb,B0,reduceIte,reduceEqDiff]
  obtain ⟨sv90,hX88,hk89⟩:=qi hF63
  refine qb4 (t:=(decide ((i57:Int)=s49.Leader))) (fun fr' h'=>∃ c82 c85,fr' 1 = .ref [.int .i64 g_0.Epoch,.int .i64 g_0.Leader,lst cI g_0.InStep,
    .int .i64 g_0.High,lst Replica.cells g_0.Replicas] 0∧fr' 2 = .ptr b5 0∧fr' 5 = .ptr b33 0∧fr' 6 = .int .i64 (i57:Int)∧fr' 16 = .int .i64
    (List.length v17.Replicas:Int)∧fr' 17 = .int .i64 (i57:Int)∧SlF cI 1 3 v51 sv90.2.1 c82∧SlN Replica.R 3 51 v24 sv90.2.2 c85∧Sep h' (geL h.length)
    ([Blk1 b5 [.int .i64 0,.int .i64 0,.nil,.int .i64 0,.nil] 29]++([Blk1 b33 [.int .i64 sv90.1.Epoch,.int .i64 sv90.1.Leader,v51,.int .i64 sv90.1.High,
    v24] 29]++(c82++(c85++([])))))) (fun Q91 hN92 hR93 hE94=>⟨fun hc95=>?_,fun hc95=>?_⟩) ?_
  ·rw [iteT hc95] at hX88
   obtain ⟨v96,hx97,hF98⟩:=qi hX88
   simp only [qd,qc,f76,za,B0,reduceIte,reduceEqDiff]
   refine ku rfl (qbg hW b33 (Group.mk s49.Epoch s49.Leader s49.InStep s49.High s54) v51 c52 hv53 v24 c55 hv56 (i57:Int) v96 hx97 (Sep.m3 (Sep.m3
     (Sep.m3 hS73)))) ?_
   rintro _ h103 ⟨c99,c101,rfl,hv100,hv102,hS104⟩
   simp only [qa,qo,B0,reduceIte,reduceEqDiff]
   have e105:=ql hF98
   subst e105
   exact hN92 _ _ ⟨c99,c101,f74,f75,f76,rfl,f79,f78,hv100,hv102,(Sep.m3 (Sep.m2 (Sep.m2 (Sep.m2 hS104))))⟩
  ·rw [iteF hc95] at hX88
   obtain ⟨v106,hx107,hF108⟩:=qi hX88
   simp only [qd,qc,f76,za,B0,reduceIte,reduceEqDiff]
   refine ku rfl (qe2 hW k b33 (Group.mk s49.Epoch s49.Leader s49.InStep s49.High s54) v51 c52 hv53 v24 c55 hv56 (i57:Int) 30 v106 hx107 (Sep.m3 (Sep.m3
     (Sep.m3 hS73)))) ?_
   rintro _ h113 ⟨c109,c111,rfl,hv110,hv112,hS114⟩
   simp only [qa,qo,B0,reduceIte,reduceEqDiff]
   have e115:=ql hF108
   subst e115
   exact hN92 _ _ ⟨c109,c111,f74,f75,f76,rfl,f79,f78,hv110,hv112,(Sep.m3 (Sep.m2 (Sep.m2 (Sep.m2 hS114))))⟩
  rintro fr116 h117 ⟨c82,c85,f119,f120,f121,f122,f123,f124,hv83,hv86,hS118⟩
  obtain ⟨s80,s81,s84⟩:=sv90
  dsimp only at *
  unfold qas at hk89
  simp only [q2y,qd,f121,qs,qb,Nat.reduceAdd,Nat.zero_add,Nat.add_zero,qw,qp,B0,reduceIte,reduceEqDiff]
  refine qj (v:=v51) ((zu (Sep.bk _ _ _ (Sep.m1 hS118))).trans rfl) ?_
  simp only [f122,qc,yu,evp,B0,reduceIte,reduceEqDiff]
  refine ye (n:=1) (f:=cI) [(i57:Int)] hS118 rfl rfl (fun v125 c126 h127 hv128 hS129=>?_)
  simp only [uc,B0,reduceIte,reduceEqDiff]
  obtain ⟨l131,hx132,hF133⟩:=qi hk89
  refine wq (f:=cI) hv83 (Sep.m3 hS129) hW (fun _=>rfl) (fun _=>rfl) (SlF.first hv128 hS129 (fun _=>rfl)) hx132 (fun v134 c135 h136 hv137 hS138=>?_)
  simp only [f121,qs,qb,Nat.reduceAdd,Nat.zero_add,Nat.add_zero,qw,zg,B0,reduceIte,reduceEqDiff]
  refine qy (us:=[v134]) (k5 (SlF.one hv137)) (cs':=[.int .i64 s80.Epoch,.int .i64 s80.Leader,v134,.int .i64 s80.High,
    v24]) (Sep.m3 hS138) hW rfl (qk (SlF.one hv137) zn) (Nat.le_of_ble_eq_true rfl) rfl (fun h140 hS141=>?_)
  simp only [qa,qo,B0,reduceIte,reduceEqDiff]
  have e142:=ql hF133
  exact hN66 _ _ _ e142.symm ⟨v134,c135,c85,f119,f120,f121,hv137,hv86,(Sep.m3 (Sep.m2 (Sep.m2 (Sep.m3 (Sep.dc (Sep.m2 hS141))))))⟩ (f124) (f123)
 rintro ⟨s145,s150⟩ fr153 h154 rfl ⟨v147,c148,c151,f156,f157,f158,hv149,hv152,hS155⟩
 dsimp only [jnO] at hk62
 dsimp only at *
 unfold qar at hk62
 simp only [qsg,qe,qd,f158,qs,qb,Nat.reduceAdd,Nat.zero_add,Nat.add_zero,qw,qp,B0,reduceIte,reduceEqDiff]
 refine qj (v:=v24) ((zu (Sep.bk _ _ _ (Sep.m1 hS155))).trans rfl) ?_
 simp only [f158,qs,qb,Nat.reduceAdd,Nat.zero_add,Nat.add_zero,qw,qp,B0,reduceIte,reduceEqDiff]
 refine qj (v := .int .i64 s145.Leader) ((zu (Sep.bk _ _ _ (Sep.m1 hS155))).trans rfl) ?_
 obtain ⟨x159,hx160,hF161⟩:=qi hk62
 simp only [j0,B0,reduceIte,reduceEqDiff]
 obtain ⟨b162,hb163⟩:=SlN.isrow hv152 (ur hx160)
 refine qj (SlN.ia hv152 hb163 hx160) ?_
 obtain ⟨c164,cs165,os166,hv167,hR168,hS169⟩:=SlG.opn (SlN.toG hv152 hb163 Replica.RO.len) hx160 jk Replica.RO.len (Sep.m3 hS155)
 obtain ⟨v171,c172,hv173,rfl,rfl⟩:=hR168
 have hS170:=Sep.no1 hS169
 simp only [qs,qb,Nat.reduceAdd,Nat.zero_add,Nat.add_zero,qw,qp,B0,reduceIte,reduceEqDiff]
 refine qj (v:=v171) ((SlG.ld (o:=0) hv167 rfl hx160 hS170 (Nat.le_of_ble_eq_true rfl)).trans rfl) ?_
 simp only [jb,qb,SlF.plen hv173,f158,qs,Nat.reduceAdd,Nat.zero_add,Nat.add_zero,qw,zg,B0,reduceIte,reduceEqDiff]
 refine qy (us:=[.int .i64 (List.length x159.Log:Int)]) rfl (cs':=[.int .i64 s145.Epoch,.int .i64 s145.Leader,v147,.int .i64 (List.length x159.Log:Int),
   v24]) (Sep.m3 hS170) hW rfl rfl (Nat.le_of_ble_eq_true rfl) rfl (fun h175 hS176=>?_)
 simp only [qa,qz9,qe,jh,f158,zm,B0,reduceIte,reduceEqDiff]
 refine qq (v := .agg [.int .i64 s145.Epoch,.int .i64 s145.Leader,v147,.int .i64 (List.length x159.Log:Int),v24]) ((zv (Sep.bk _ _ _ hS176)).trans rfl) ?_
 simp only [f158,uu,qg,Nat.reduceAdd,Nat.zero_add,Nat.add_zero,qw,wv,B0,reduceIte,reduceEqDiff]
 refine qim (Sep.ltk hS176) ?_
 refine qq (v := .int .i64 (List.length x159.Log:Int)) ((zu (Sep.bk _ _ _ hS176)).trans rfl) ?_
 simp only [f156,uu,qg,Nat.reduceAdd,Nat.zero_add,Nat.add_zero,qr,wv,yz,B0,reduceIte,reduceEqDiff]
 refine qq (v := .int .i64 g_0.High) rfl ?_
 simp only [qsa,qg,qdd,f157,qor,B0,reduceIte,reduceEqDiff]
 refine qve (qow (Sep.bne (Sep.m3 hS176)) ql1) ?_
 refine xk (us:=[.int .i64 s145.Epoch,.int .i64 s145.Leader,v147,.int .i64 (List.length x159.Log:Int),v24]) rfl (cs':=[.int .i64 s145.Epoch,
   .int .i64 s145.Leader,v147,.int .i64 (List.length x159.Log:Int),
   v24]) (Sep.m3 hS176) hW rfl (qk rfl (qk rfl (qk (SlF.one hv149) (qk rfl (qk (SlG.one hv167) zn))))) (Nat.le_of_ble_eq_true rfl) rfl (fun h177 hS178=>?_)
 simp only [zp,qg,qu,q8,B0,reduceIte,reduceEqDiff]
 obtain ⟨c179,hv180,hS181⟩:=SlG.cls0 (c:=c164) (os:=c172) hv167 rfl hx160 jk (Replica.RI (x:=x159) hv173) (Sep.m3 (Sep.m3 hS178))
 have hv182:=SlG.toN hv180
 have he:=ql hF161
 subst he
 refine jy (qh (j6 (bb:=b5) (oo:=0) (v := .agg [.int .i64 s145.Epoch,.int .i64 s145.Leader,v147,.int .i64 (List.length x159.Log:Int),
   v24]) (f157) ((zv (Sep.bk _ _ _ (Sep.m1 hS181))).trans rfl)) (qh (yq (v := .int .i64 (IntKind.wrap .i64 ((List.length x159.Log:Int) - g_0.High))) (rfl)) (qh
   (yq (v := .bool true) (rfl)) qz))) ?_
 exact ⟨v147,c148,v24,c179,by first | trivial | rfl,hv149,hv182,(Sep.m1 (Sep.dc (Sep.m1 (Sep.dc (Sep.m1 hS181)))))⟩
theorem qd4 {W:Nat→Bool}{h:Heap} (hW:∀ b,
  (geL h.length) b→W b=true) (a_0:List Row) (b_1:List Row) (r:Bool) (hF:u2 a_0 b_1=some r) : Ret E W 23 [lst Row.cells a_0,
  lst Row.cells b_1] h (fun v h'=>cut h.length h' E.sz false 9 v=some (.bool r)):=by
 refine Ret.of (fn:=x23) rfl (Run.of ?_)
 unfold u2 at hF
 have zf0:ze [lst Row.cells a_0,lst Row.cells b_1] 0=lst Row.cells a_0:=rfl
 have zf1:ze [lst Row.cells a_0,lst Row.cells b_1] 1=lst Row.cells b_1:=rfl
 generalize ze [lst Row.cells a_0,lst Row.cells b_1]=fr0 at zf0 zf1 ⊢
 have hS:Sep h (geL h.length) []:=Sep.nil h
 simp only [x23,qe,qd,qc,qa,q1w,zf0,jb,qb,jl,zf1,q9,qao,zb,B0,reduceIte,reduceEqDiff]
 refine zd (t:=(decide ((List.length a_0:Int)≠(List.length b_1:Int)))) (fun hc1=>?_) (fun hc1=>?_)
 ·rw [iteT hc1] at hF
  simp only [qe,qd,qc,qa,q8,B0,reduceIte,reduceEqDiff]
  have he:=ql hF
  subst he
  simp only [zj,B0,reduceIte,reduceEqDiff]
  exact rfl
 rw [iteF hc1] at hF
 simp only [zk,qyh,qe,qd,zf0,qc,jb,qb,jl,qa,B0,reduceIte,reduceEqDiff]
 obtain ⟨oc4,hX6,hk7⟩:=kq hF
 simp only [q3g]
 refine xl (σ:=Unit) a_0 (fun i2 x3 _=>qb0 b_1 i2 x3 ) (fun s fr' h'=>fr' 0=lst Row.cells a_0∧fr' 1=lst Row.cells b_1∧Sep h' (geL h.length)
   ([])) hX6 ⟨zf0,zf1,hS⟩ (by simp only [B0,reduceIte,reduceEqDiff]) (by simp only [B0,reduceIte,
   reduceEqDiff]) (fun _ _ _ h=>h) rfl rfl (fun _ _ _ _ h=>h) (fun _ _ _ _ h=>h) (fun _ _ _ _ h=>h) (by decide) ?_ ?_
 ·rintro i2 x3 _ fr16 h17 hx21 ⟨f19,f20,hS18⟩ f22 f23 oc5 hF8 hr9 Q10 hN11 hB15 hK12 hR13 hE14
  unfold qb0 at hF8
  simp only [qv4,qe,qd,f22,qc,qa,qyo,jh,f19,zp,qg,wo,B0,reduceIte,reduceEqDiff]
  refine qq (v := .ref (Row.cells x3) 0) (xw hx21 rfl) ?_
  simp only [zm,B0,reduceIte,reduceEqDiff]
  refine qq (v := .agg [.int .i64 x3.Epoch,.int .i64 x3.Value]) rfl ?_
  obtain ⟨x24,hx25,hF26⟩:=qi hF8
  simp only [f20,zp,qg,wo,B0,reduceIte,reduceEqDiff]
  refine qq (v := .ref (Row.cells x24) 0) (kz hx25 rfl) ?_
  simp only [zm,B0,reduceIte,reduceEqDiff]
  refine qq (v := .agg [.int .i64 x24.Epoch,.int .i64 x24.Value]) rfl ?_
  simp only [qmc,B0,reduceIte,reduceEqDiff]
  refine qq (v := .bool (!((x3.Epoch == x24.Epoch)&&((x3.Value == x24.Value)&&true)))) rfl ?_
  simp only [qu,zb,B0,reduceIte,reduceEqDiff]
  refine zd (t:=(!((x3.Epoch == x24.Epoch)&&((x3.Value == x24.Value)&&true)))) (fun hc27=>?_) (fun hc27=>?_)
  ·rw [iteT hc27] at hF26
   simp only [qe,qd,qc,qa,q8,B0,reduceIte,reduceEqDiff]
   have e28:=ql hF26
   subst e28
   have ho29:=hr9 _ rfl
   have hk30:=hk7
   rw [ho29] at hk30
   dsimp only [jnO] at hk30
   apply hR13
   have he:=ql hk30
   subst he
   simp only [zj,B0,reduceIte,reduceEqDiff]
   exact rfl
  rw [iteF hc27] at hF26
  simp only [zk,qo,B0,reduceIte,reduceEqDiff]
  have e31:=ql hF26
  exact hN11 _ _ _ e31.symm ⟨f19,f20,hS18⟩ (f22) (f23)
 rintro _ fr33 h34 rfl ⟨f36,f37,hS35⟩
 dsimp only [jnO] at hk7
 unfold qfw at hk7
 simp only [qe,qd,qc,qa,q8,B0,reduceIte,reduceEqDiff]
 have he:=ql hk7
 subst he
 simp only [zj,B0,reduceIte,reduceEqDiff]
 exact rfl
theorem qka {W:Nat→Bool}{h:Heap} (hW:∀ b,
  (geL h.length) b→W b=true) (a_0:List Int) (b_1:List Int) (r:Bool) (hF:u1 a_0 b_1=some r) : Ret E W 68 [lst cI a_0,
  lst cI b_1] h (fun v h'=>cut h.length h' E.sz false 9 v=some (.bool r)):=by
 refine Ret.of (fn:=x68) rfl (Run.of ?_)
 unfold u1 at hF
 have zf0:ze [lst cI a_0,lst cI b_1] 0=lst cI a_0:=rfl
 have zf1:ze [lst cI a_0,lst cI b_1] 1=lst cI b_1:=rfl
 generalize ze [lst cI a_0,lst cI b_1]=fr0 at zf0 zf1 ⊢
 have hS:Sep h (geL h.length) []:=Sep.nil h
 simp only [x68,qe,qd,qc,qa,qy9,zf0,jb,qb,jl,zf1,q9,qao,zb,B0,reduceIte,reduceEqDiff]
 refine zd (t:=(decide ((List.length a_0:Int)≠(List.length b_1:Int)))) (fun hc1=>?_) (fun hc1=>?_)
 ·rw [iteT hc1] at hF
  simp only [qe,qd,qc,qa,q8,B0,reduceIte,reduceEqDiff]
  have he:=ql hF
  subst he
  simp only [zj,B0,reduceIte,reduceEqDiff]
  exact rfl
 rw [iteF hc1] at hF
 simp only [zk,q1v,qe,qd,zf0,qc,jb,qb,jl,qa,B0,reduceIte,reduceEqDiff]
 obtain ⟨oc4,hX6,hk7⟩:=kq hF
 simp only [qxi]
 refine xl (σ:=Unit) a_0 (fun i2 x3 _=>qap b_1 i2 x3 ) (fun s fr' h'=>fr' 0=lst cI a_0∧fr' 1=lst cI b_1∧Sep h' (geL h.length) ([])) hX6 ⟨zf0,
   zf1,hS⟩ (by simp only [B0,reduceIte,reduceEqDiff]) (by simp only [B0,reduceIte,
   reduceEqDiff]) (fun _ _ _ h=>h) rfl rfl (fun _ _ _ _ h=>h) (fun _ _ _ _ h=>h) (fun _ _ _ _ h=>h) (by decide) ?_ ?_
 ·rintro i2 x3 _ fr16 h17 hx21 ⟨f19,f20,hS18⟩ f22 f23 oc5 hF8 hr9 Q10 hN11 hB15 hK12 hR13 hE14
  unfold qap at hF8
  simp only [q2i,qe,qd,f22,qc,qa,q3c,jh,f19,zp,qg,wo,B0,reduceIte,reduceEqDiff]
  refine qq (v := .ref (cI x3) 0) (xw hx21 rfl) ?_
  simp only [zm,B0,reduceIte,reduceEqDiff]
  refine qq (v := .int .i64 x3) rfl ?_
  obtain ⟨x24,hx25,hF26⟩:=qi hF8
  simp only [f20,zp,qg,wo,B0,reduceIte,reduceEqDiff]
  refine qq (v := .ref (cI x24) 0) (kz hx25 rfl) ?_
  simp only [zm,B0,reduceIte,reduceEqDiff]
  refine qq (v := .int .i64 x24) rfl ?_
  simp only [kh,qg,qao,qu,zb,B0,reduceIte,reduceEqDiff]
  refine zd (t:=(decide (x3≠x24))) (fun hc27=>?_) (fun hc27=>?_)
  ·rw [iteT hc27] at hF26
   simp only [qe,qd,qc,qa,q8,B0,reduceIte,reduceEqDiff]
   have e28:=ql hF26
   subst e28
   have ho29:=hr9 _ rfl
   have hk30:=hk7
   rw [ho29] at hk30
   dsimp only [jnO] at hk30
   apply hR13
   have he:=ql hk30
   subst he
   simp only [zj,B0,reduceIte,reduceEqDiff]
   exact rfl
  rw [iteF hc27] at hF26
  simp only [zk,qo,B0,reduceIte,reduceEqDiff]
  have e31:=ql hF26
  exact hN11 _ _ _ e31.symm ⟨f19,f20,hS18⟩ (f22) (f23)
 rintro _ fr33 h34 rfl ⟨f36,f37,hS35⟩
 dsimp only [jnO] at hk7
 unfold qf1 at hk7
 simp only [qe,qd,qc,qa,q8,B0,reduceIte,reduceEqDiff]
 have he:=ql hk7
 subst he
 simp only [zj,B0,reduceIte,reduceEqDiff]
 exact rfl
theorem qc9 {W:Nat→Bool}{h:Heap} (hW:∀ b,
  (geL h.length) b→W b=true) (v_0:Group) (v_1:Group) (r:Bool) (hF:xh v_0 v_1=some r) : Ret E W 19 [.agg [.int .i64 v_0.Epoch,.int .i64 v_0.Leader,
  lst cI v_0.InStep,.int .i64 v_0.High,lst Replica.cells v_0.Replicas],.agg [.int .i64 v_1.Epoch,.int .i64 v_1.Leader,lst cI v_1.InStep,.int .i64 v_1.High,
  lst Replica.cells v_1.Replicas]] h (fun v h'=>cut h.length h' E.sz false 9 v=some (.bool r)):=by
 refine Ret.of (fn:=x19) rfl (Run.of ?_)
 unfold xh at hF
 have zf0:ze [.agg [.int .i64 v_0.Epoch,.int .i64 v_0.Leader,lst cI v_0.InStep,.int .i64 v_0.High,lst Replica.cells v_0.Replicas],.agg [.int .i64 v_1.Epoch,
   .int .i64 v_1.Leader,lst cI v_1.InStep,.int .i64 v_1.High,lst Replica.cells v_1.Replicas]] 0 = .agg [.int .i64 v_0.Epoch,.int .i64 v_0.Leader,lst cI v_0.InStep,
   .int .i64 v_0.High,lst Replica.cells v_0.Replicas]:=rfl
 have zf1:ze [.agg [.int .i64 v_0.Epoch,.int .i64 v_0.Leader,lst cI v_0.InStep,.int .i64 v_0.High,lst Replica.cells v_0.Replicas],.agg [.int .i64 v_1.Epoch,
   .int .i64 v_1.Leader,lst cI v_1.InStep,.int .i64 v_1.High,lst Replica.cells v_1.Replicas]] 1 = .agg [.int .i64 v_1.Epoch,.int .i64 v_1.Leader,lst cI v_1.InStep,
   .int .i64 v_1.High,lst Replica.cells v_1.Replicas]:=rfl
 generalize ze [.agg [.int .i64 v_0.Epoch,.int .i64 v_0.Leader,lst cI v_0.InStep,.int .i64 v_0.High,lst Replica.cells v_0.Replicas],.agg [.int .i64 v_1.Epoch,
   .int .i64 v_1.Leader,lst cI v_1.InStep,.int .i64 v_1.High,lst Replica.cells v_1.Replicas]]=fr0 at zf0 zf1 ⊢
 have hS:Sep h (geL h.length) []:=Sep.nil h
 simp only [x19,qe,qd,kp,zf0,B0,reduceIte,reduceEqDiff]
 refine jz (cs:=[.int .i64 v_0.Epoch,.int .i64 v_0.Leader,lst cI v_0.InStep,.int .i64 v_0.High,lst Replica.cells v_0.Replicas]) hS rfl rfl rfl (fun b1 h2 hS3=>?_)
 simp only [kp,zf1,B0,reduceIte,reduceEqDiff]
 refine jz (cs:=[.int .i64 v_1.Epoch,.int .i64 v_1.Leader,lst cI v_1.InStep,.int .i64 v_1.High,lst Replica.cells v_1.Replicas]) hS3 rfl rfl rfl (fun b5 h6 hS7=>?_)
 simp only [qc,qa,B0,reduceIte,reduceEqDiff]
 refine zz (Sep.m1 hS7) hW (by simp only [B0,reduceIte,reduceEqDiff]) (fun h9 hS10=>?_)
 refine zz hS10 hW (by simp only [B0,reduceIte,reduceEqDiff]) (fun h11 hS12=>?_)
 simp only [zw,qxw,qe,qd,qs,qb,Nat.reduceAdd,Nat.zero_add,Nat.add_zero,qr,qp,B0,reduceIte,reduceEqDiff]
 refine qj (v := .int .i64 v_0.Epoch) rfl ?_
 simp only [qs,qb,Nat.reduceAdd,Nat.zero_add,Nat.add_zero,qr,qp,B0,reduceIte,reduceEqDiff]
 refine qj (v := .int .i64 v_1.Epoch) rfl ?_
 simp only [q9,qb,qao,qc,B0,reduceIte,reduceEqDiff]
 refine ji 6 (fun fr' h'=>Sep h' (geL h.length) ([])∧fr' 19 = .bool ((decide (v_0.Epoch≠v_1.Epoch))||(decide
   (v_0.Leader≠v_1.Leader)))∧fr' 2 = .ref [.int .i64 v_0.Epoch,.int .i64 v_0.Leader,lst cI v_0.InStep,.int .i64 v_0.High,
   lst Replica.cells v_0.Replicas] 0∧fr' 3 = .ref [.int .i64 v_1.Epoch,.int .i64 v_1.Leader,lst cI v_1.InStep,.int .i64 v_1.High,
   lst Replica.cells v_1.Replicas] 0) (fun Q13 hN14=>?_) ?_
 ·simp only [List.take_succ_cons,List.take_zero]
  simp only [qf (g:=13),B0,reduceIte,reduceEqDiff]
  refine zf (t:=(decide (v_0.Epoch≠v_1.Epoch))) (fun hg15=>?_) (fun hg15=>?_)
  ·simp only [hg15,qf (g:=13),jf,qt,qb,zh,qa,qo,B0,reduceIte,reduceEqDiff]
   exact hN14 _ _ ⟨hS12,by rw [orT hg15]; simp only [B0,reduceIte,reduceEqDiff],rfl,rfl⟩
  ·simp only [hg15,qf (g:=13),qv,qs,qb,Nat.reduceAdd,Nat.zero_add,Nat.add_zero,qr,qp,B0,reduceIte,reduceEqDiff]
   refine qj (v := .int .i64 v_0.Leader) rfl ?_
   simp only [hg15,qf (g:=13),qv,qs,qb,Nat.reduceAdd,Nat.zero_add,Nat.add_zero,qr,qp,B0,reduceIte,reduceEqDiff]
   refine qj (v := .int .i64 v_1.Leader) rfl ?_
   simp only [hg15,qf (g:=13),qv,q9,qb,qao,qt,zi,qa,qo,B0,reduceIte,reduceEqDiff]
   exact hN14 _ _ ⟨hS12,by rw [orF hg15]; simp only [B0,reduceIte,reduceEqDiff],rfl,rfl⟩
 rintro fr16 h20 ⟨hS21,f17,f18,f19⟩
 simp only [List.drop_succ_cons,List.drop_zero]
 simp only [f17,qc,B0,reduceIte,reduceEqDiff]
 refine ji 6 (fun fr' h'=>Sep h' (geL h.length) ([])∧fr' 26 = .bool (((decide (v_0.Epoch≠v_1.Epoch))||(decide (v_0.Leader≠v_1.Leader)))||(decide
   (v_0.High≠v_1.High)))∧fr' 2 = .ref [.int .i64 v_0.Epoch,.int .i64 v_0.Leader,lst cI v_0.InStep,.int .i64 v_0.High,
   lst Replica.cells v_0.Replicas] 0∧fr' 3 = .ref [.int .i64 v_1.Epoch,.int .i64 v_1.Leader,lst cI v_1.InStep,.int .i64 v_1.High,
   lst Replica.cells v_1.Replicas] 0) (fun Q22 hN23=>?_) ?_
 ·simp only [List.take_succ_cons,List.take_zero]
  simp only [qf (g:=20),B0,reduceIte,reduceEqDiff]
  refine zf (t:=((decide (v_0.Epoch≠v_1.Epoch))||(decide (v_0.Leader≠v_1.Leader)))) (fun hg24=>?_) (fun hg24=>?_)
  ·simp only [hg24,qf (g:=20),jf,qt,qb,zh,qa,qo,B0,reduceIte,reduceEqDiff]
   exact hN23 _ _ ⟨hS21,by rw [orT hg24]; simp only [B0,reduceIte,reduceEqDiff],f18,f19⟩
  ·simp only [hg24,qf (g:=20),qv,f18,qs,qb,Nat.reduceAdd,Nat.zero_add,Nat.add_zero,qr,qp,B0,reduceIte,reduceEqDiff]
   refine qj (v := .int .i64 v_0.High) rfl ?_
   simp only [hg24,qf (g:=20),qv,f19,qs,qb,Nat.reduceAdd,Nat.zero_add,Nat.add_zero,qr,qp,B0,reduceIte,reduceEqDiff]
   refine qj (v := .int .i64 v_1.High) rfl ?_
   simp only [hg24,qf (g:=20),qv,q9,qb,qao,qt,zi,qa,qo,B0,reduceIte,reduceEqDiff]
   exact hN23 _ _ ⟨hS21,by rw [orF hg24]; simp only [B0,reduceIte,reduceEqDiff],f18,f19⟩
 rintro fr25 h29 ⟨hS30,f26,f27,f28⟩
 simp only [List.drop_succ_cons,List.drop_zero]
 simp only [f26,qc,B0,reduceIte,reduceEqDiff]
 obtain ⟨v34,hx35,hF36⟩:=qi hF
 refine ji 7 (fun fr' h'=>Sep h' (geL h.length) ([])∧fr' 34 = .bool v34∧fr' 2 = .ref [.int .i64 v_0.Epoch,.int .i64 v_0.Leader,lst cI v_0.InStep,.int .i64 v_0.High,
   lst Replica.cells v_0.Replicas] 0∧fr' 3 = .ref [.int .i64 v_1.Epoch,.int .i64 v_1.Leader,lst cI v_1.InStep,.int .i64 v_1.High,
   lst Replica.cells v_1.Replicas] 0) (fun Q31 hN32=>?_) ?_
 ·simp only [List.take_succ_cons,List.take_zero]
  simp only [qf (g:=27),B0,reduceIte,reduceEqDiff]
  refine zf (t:=(((decide (v_0.Epoch≠v_1.Epoch))||(decide (v_0.Leader≠v_1.Leader)))||(decide (v_0.High≠v_1.High)))) (fun hg33=>?_) (fun hg33=>?_)
  ·rw [iteT hg33] at hx35
   simp only [hg33,qf (g:=27),jf,qt,qb,zh,qa,qo,B0,reduceIte,reduceEqDiff]
   have e37:=ql hx35
   exact hN32 _ _ ⟨hS30,by rw [←e37]; simp only [B0,reduceIte,reduceEqDiff],f27,f28⟩
  ·rw [iteF hg33] at hx35
   simp only [hg33,qf (g:=27),qv,f27,qs,qb,Nat.reduceAdd,Nat.zero_add,Nat.add_zero,qr,qp,B0,reduceIte,reduceEqDiff]
   refine qj (v:=lst cI v_0.InStep) rfl ?_
   simp only [hg33,qf (g:=27),qv,f28,qs,qb,Nat.reduceAdd,Nat.zero_add,Nat.add_zero,qr,qp,B0,reduceIte,reduceEqDiff]
   refine qj (v:=lst cI v_1.InStep) rfl ?_
   obtain ⟨v38,hx39,hF40⟩:=qi hx35
   simp only [hg33,qf (g:=27),qv,za,B0,reduceIte,reduceEqDiff]
   refine js rfl (qh zo (qh zo qz)) (qka (fun b hb=>decide_eq_true hb) v_0.InStep v_1.InStep v38 hx39) ?_
   simp only [hg33,qf (g:=27),qv,ka,qb,kx,qt,zi,qa,qo,B0,reduceIte,reduceEqDiff]
   have e41:=ql hF40
   exact hN32 _ _ ⟨hS30,by rw [←e41]; simp only [B0,reduceIte,reduceEqDiff],f27,f28⟩
 rintro fr42 h46 ⟨hS47,f43,f44,f45⟩
 simp only [List.drop_succ_cons,List.drop_zero]
 simp only [f43,qc,B0,reduceIte,reduceEqDiff]
 refine ji 8 (fun fr' h'=>Sep h' (geL h.length) ([])∧fr' 43 = .bool (v34||(decide ((List.length v_0.Replicas:Int) ≠
   (List.length v_1.Replicas:Int))))∧fr' 2 = .ref [.int .i64 v_0.Epoch,.int .i64 v_0.Leader,lst cI v_0.InStep,.int .i64 v_0.High,
   lst Replica.cells v_0.Replicas] 0∧fr' 3 = .ref [.int .i64 v_1.Epoch,.int .i64 v_1.Leader,lst cI v_1.InStep,.int .i64 v_1.High,
   lst Replica.cells v_1.Replicas] 0) (fun Q48 hN49=>?_) ?_
 ·simp only [List.take_succ_cons,List.take_zero]
  simp only [qf (g:=35),B0,reduceIte,reduceEqDiff]
  refine zf (t:=v34) (fun hg50=>?_) (fun hg50=>?_)
  ·simp only [hg50,qf (g:=35),jf,qt,qb,zh,qa,qo,B0,reduceIte,reduceEqDiff]
   exact hN49 _ _ ⟨hS47,by rw [orT hg50]; simp only [B0,reduceIte,reduceEqDiff],f44,f45⟩
  ·simp only [hg50,qf (g:=35),qv,f44,qs,qb,Nat.reduceAdd,Nat.zero_add,Nat.add_zero,qr,qp,B0,reduceIte,reduceEqDiff]
   refine qj (v:=lst Replica.cells v_0.Replicas) rfl ?_
   simp only [hg50,qf (g:=35),qv,jb,qb,jl,f45,qs,Nat.reduceAdd,Nat.zero_add,Nat.add_zero,qr,qp,B0,reduceIte,
     reduceEqDiff]
   refine qj (v:=lst Replica.cells v_1.Replicas) rfl ?_
   simp only [hg50,qf (g:=35),qv,jb,qb,jl,q9,qao,qt,zi,qa,qo,B0,reduceIte,reduceEqDiff]
   exact hN49 _ _ ⟨hS47,by rw [orF hg50]; simp only [B0,reduceIte,reduceEqDiff],f44,f45⟩
 rintro fr51 h55 ⟨hS56,f52,f53,f54⟩
 simp only [List.drop_succ_cons,List.drop_zero]
 simp only [qa,f52,zb,B0,reduceIte,reduceEqDiff]
 refine zd (t:=(v34||(decide ((List.length v_0.Replicas:Int)≠(List.length v_1.Replicas:Int))))) (fun hc57=>?_) (fun hc57=>?_)
 ·rw [iteT hc57] at hF36
  simp only [qe,qd,qc,qa,q8,B0,reduceIte,reduceEqDiff]
  have he:=ql hF36
  subst he
  simp only [zj,B0,reduceIte,reduceEqDiff]
  exact rfl
 rw [iteF hc57] at hF36
 simp only [zk,qxl,qe,qd,f53,qs,qb,Nat.reduceAdd,Nat.zero_add,Nat.add_zero,qr,qp,B0,reduceIte,reduceEqDiff]
 refine qj (v:=lst Replica.cells v_0.Replicas) rfl ?_
 simp only [jb,qb,jl,qc,qa,B0,reduceIte,reduceEqDiff]
 obtain ⟨oc60,hX62,hk63⟩:=kq hF36
 simp only [q3a]
 refine qei (σ:=Unit) (fun i58 _=>um v_0 v_1 i58 ) (fun s fr' h'=>fr' 2 = .ref [.int .i64 v_0.Epoch,.int .i64 v_0.Leader,lst cI v_0.InStep,
   .int .i64 v_0.High,lst Replica.cells v_0.Replicas] 0∧fr' 3 = .ref [.int .i64 v_1.Epoch,.int .i64 v_1.Leader,lst cI v_1.InStep,.int .i64 v_1.High,
   lst Replica.cells v_1.Replicas] 0∧Sep h' (geL h.length) ([])) hX62 ⟨f53,f54,hS56⟩ (by simp only [B0,reduceIte,reduceEqDiff]) (by simp only [B0,reduceIte,
   reduceEqDiff]) (fun _ _ _ h=>h) rfl rfl (fun _ _ _ _ h=>h) (fun _ _ _ _ h=>h) (fun _ _ _ _ h=>h) (by decide) ?_ ?_
 ·rintro i58 _ fr72 h73 hx77 ⟨f75,f76,hS74⟩ f78 f79 oc61 hF64 hr65 Q66 hN67 hB71 hK68 hR69 hE70
  unfold um at hF64
  simp only [qz6,qe,qd,f78,qc,qa,q07,f75,qs,qb,Nat.reduceAdd,Nat.zero_add,Nat.add_zero,qr,qp,B0,reduceIte,
    reduceEqDiff]
  refine qj (v:=lst Replica.cells v_0.Replicas) rfl ?_
  obtain ⟨x80,hx81,hF82⟩:=qi hF64
  simp only [qc,j0,B0,reduceIte,reduceEqDiff]
  refine qj (v := .ref (Replica.cells x80) 0) (kz hx81 rfl) ?_
  simp only [qp,B0,reduceIte,reduceEqDiff]
  refine qj (v := .agg [lst Row.cells x80.Log,.int .i64 x80.Epoch,.int .i64 x80.Known]) rfl ?_
  simp only [je,B0,reduceIte,reduceEqDiff]
  refine zt hS74 (fun b83 h84 hS85=>?_)
  simp only [zg,B0,reduceIte,reduceEqDiff]
  refine qy (us:=[lst Row.cells x80.Log,.int .i64 x80.Epoch,.int .i64 x80.Known]) rfl (cs':=[lst Row.cells x80.Log,.int .i64 x80.Epoch,
    .int .i64 x80.Known]) hS85 hW rfl rfl (Nat.le_of_ble_eq_true rfl) rfl (fun h87 hS88=>?_)
  simp only [qa,B0,reduceIte,reduceEqDiff]
  refine zz hS88 hW (by simp only [B0,reduceIte,reduceEqDiff]) (fun h89 hS90=>?_)
  simp only [zw,q1s,qe,qd,f76,qs,qb,Nat.reduceAdd,Nat.zero_add,Nat.add_zero,qr,qp,B0,reduceIte,reduceEqDiff]
  refine qj (v:=lst Replica.cells v_1.Replicas) rfl ?_
  obtain ⟨x91,hx92,hF93⟩:=qi hF82
  simp only [qc,j0,B0,reduceIte,reduceEqDiff]
  refine qj (v := .ref (Replica.cells x91) 0) (kz hx92 rfl) ?_
  simp only [qp,B0,reduceIte,reduceEqDiff]
  refine qj (v := .agg [lst Row.cells x91.Log,.int .i64 x91.Epoch,.int .i64 x91.Known]) rfl ?_
  simp only [je,B0,reduceIte,reduceEqDiff]
  refine zt hS90 (fun b94 h95 hS96=>?_)
  simp only [zg,B0,reduceIte,reduceEqDiff]
  refine qy (us:=[lst Row.cells x91.Log,.int .i64 x91.Epoch,.int .i64 x91.Known]) rfl (cs':=[lst Row.cells x91.Log,.int .i64 x91.Epoch,
    .int .i64 x91.Known]) hS96 hW rfl rfl (Nat.le_of_ble_eq_true rfl) rfl (fun h98 hS99=>?_)
  simp only [qa,B0,reduceIte,reduceEqDiff]
  refine zz hS99 hW (by simp only [B0,reduceIte,reduceEqDiff]) (fun h100 hS101=>?_)
  simp only [zw,qxf,qe,qd,qs,qb,Nat.reduceAdd,Nat.zero_add,Nat.add_zero,qr,qp,B0,reduceIte,reduceEqDiff]
  refine qj (v := .int .i64 x80.Epoch) rfl ?_
  simp only [qs,qb,Nat.reduceAdd,Nat.zero_add,Nat.add_zero,qr,qp,B0,reduceIte,reduceEqDiff]
  refine qj (v := .int .i64 x91.Epoch) rfl ?_
  simp only [q9,qb,qao,qc,B0,reduceIte,reduceEqDiff]
  refine ji 6 (fun fr' h'=>Sep h' (geL h.length) ([])∧fr' 71 = .bool ((decide (x80.Epoch≠x91.Epoch))||(decide
    (x80.Known≠x91.Known)))∧fr' 2 = .ref [.int .i64 v_0.Epoch,.int .i64 v_0.Leader,lst cI v_0.InStep,.int .i64 v_0.High,
    lst Replica.cells v_0.Replicas] 0∧fr' 3 = .ref [.int .i64 v_1.Epoch,.int .i64 v_1.Leader,lst cI v_1.InStep,.int .i64 v_1.High,
    lst Replica.cells v_1.Replicas] 0∧fr' 6 = .ref [lst Row.cells x80.Log,.int .i64 x80.Epoch,.int .i64 x80.Known] 0∧fr' 7 = .ref [lst Row.cells x91.Log,
    .int .i64 x91.Epoch,.int .i64 x91.Known] 0∧fr' 46 = .int .i64 (List.length v_0.Replicas:Int)∧fr' 47 = .int .i64 (i58:Int)) (fun Q102 hN103=>?_) ?_
  ·simp only [List.take_succ_cons,List.take_zero]
   simp only [qf (g:=65),B0,reduceIte,reduceEqDiff]
   refine zf (t:=(decide (x80.Epoch≠x91.Epoch))) (fun hg104=>?_) (fun hg104=>?_)
   ·simp only [hg104,qf (g:=65),jf,qt,qb,zh,qa,qo,B0,reduceIte,reduceEqDiff]
    exact hN103 _ _ ⟨hS101,by rw [orT hg104]; simp only [B0,reduceIte,reduceEqDiff],f75,f76,rfl,rfl,f79,f78⟩
   ·simp only [hg104,qf (g:=65),qv,qs,qb,Nat.reduceAdd,Nat.zero_add,Nat.add_zero,qr,qp,B0,reduceIte,reduceEqDiff]
    refine qj (v := .int .i64 x80.Known) rfl ?_
    simp only [hg104,qf (g:=65),qv,qs,qb,Nat.reduceAdd,Nat.zero_add,Nat.add_zero,qr,qp,B0,reduceIte,reduceEqDiff]
    refine qj (v := .int .i64 x91.Known) rfl ?_
    simp only [hg104,qf (g:=65),qv,q9,qb,qao,qt,zi,qa,qo,B0,reduceIte,reduceEqDiff]
    exact hN103 _ _ ⟨hS101,by rw [orF hg104]; simp only [B0,reduceIte,reduceEqDiff],f75,f76,rfl,rfl,f79,f78⟩
  rintro fr105 h113 ⟨hS114,f106,f107,f108,f109,f110,f111,f112⟩
  simp only [List.drop_succ_cons,List.drop_zero]
  simp only [f106,qc,B0,reduceIte,reduceEqDiff]
  obtain ⟨v118,hx119,hF120⟩:=qi hF93
  refine ji 7 (fun fr' h'=>Sep h' (geL h.length) ([])∧fr' 79 = .bool v118∧fr' 2 = .ref [.int .i64 v_0.Epoch,.int .i64 v_0.Leader,lst cI v_0.InStep,
    .int .i64 v_0.High,lst Replica.cells v_0.Replicas] 0∧fr' 3 = .ref [.int .i64 v_1.Epoch,.int .i64 v_1.Leader,lst cI v_1.InStep,.int .i64 v_1.High,
    lst Replica.cells v_1.Replicas] 0∧fr' 46 = .int .i64 (List.length v_0.Replicas:Int)∧fr' 47 = .int .i64 (i58:Int)) (fun Q115 hN116=>?_) ?_
  ·simp only [List.take_succ_cons,List.take_zero]
   simp only [qf (g:=72),B0,reduceIte,reduceEqDiff]
   refine zf (t:=((decide (x80.Epoch≠x91.Epoch))||(decide (x80.Known≠x91.Known)))) (fun hg117=>?_) (fun hg117=>?_)
   ·rw [iteT hg117] at hx119
    simp only [hg117,qf (g:=72),jf,qt,qb,zh,qa,qo,B0,reduceIte,reduceEqDiff]
    have e121:=ql hx119
    exact hN116 _ _ ⟨hS114,by rw [←e121]; simp only [B0,reduceIte,reduceEqDiff],f107,f108,f111,f112⟩
   ·rw [iteF hg117] at hx119
    simp only [hg117,qf (g:=72),qv,f109,qs,qb,Nat.reduceAdd,Nat.zero_add,Nat.add_zero,qr,qp,B0,reduceIte,reduceEqDiff]
    refine qj (v:=lst Row.cells x80.Log) rfl ?_
    simp only [hg117,qf (g:=72),qv,f110,qs,qb,Nat.reduceAdd,Nat.zero_add,Nat.add_zero,qr,qp,B0,reduceIte,reduceEqDiff]
    refine qj (v:=lst Row.cells x91.Log) rfl ?_
    obtain ⟨v122,hx123,hF124⟩:=qi hx119
    simp only [hg117,qf (g:=72),qv,za,B0,reduceIte,reduceEqDiff]
    refine js rfl (qh zo (qh zo qz)) (qd4 (fun b hb=>decide_eq_true hb) x80.Log x91.Log v122 hx123) ?_
    simp only [hg117,qf (g:=72),qv,ka,qb,kx,qt,zi,qa,qo,B0,reduceIte,reduceEqDiff]
    have e125:=ql hF124
    exact hN116 _ _ ⟨hS114,by rw [←e125]; simp only [B0,reduceIte,reduceEqDiff],f107,f108,f111,f112⟩
  rintro fr126 h132 ⟨hS133,f127,f128,f129,f130,f131⟩
  simp only [List.drop_succ_cons,List.drop_zero]
  simp only [qa,f127,zb,B0,reduceIte,reduceEqDiff]
  refine zd (t:=v118) (fun hc134=>?_) (fun hc134=>?_)
  ·rw [iteT hc134] at hF120
   simp only [qe,qd,qc,qa,q8,B0,reduceIte,reduceEqDiff]
   have e135:=ql hF120
   subst e135
   have ho136:=hr65 _ rfl
   have hk137:=hk63
   rw [ho136] at hk137
   dsimp only [jnO] at hk137
   apply hR69
   have he:=ql hk137
   subst he
   simp only [zj,B0,reduceIte,reduceEqDiff]
   exact rfl
  rw [iteF hc134] at hF120
  simp only [zk,qo,B0,reduceIte,reduceEqDiff]
  have e138:=ql hF120
  exact hN67 _ _ _ e138.symm ⟨f128,f129,hS133⟩ (f131) (f130)
 rintro _ fr140 h141 rfl ⟨f143,f144,hS142⟩
 dsimp only [jnO] at hk63
 unfold qe4 at hk63
 simp only [qe,qd,qc,qa,q8,B0,reduceIte,reduceEqDiff]
 have he:=ql hk63
 subst he
 simp only [zj,B0,reduceIte,reduceEqDiff]
 exact rfl
theorem qb1 {W:Nat→Bool}{h:Heap} (hW:∀ b,
  (geL h.length) b→W b=true) (k:Nat) (g_0:Group) (r:(List Row) × Bool) (hF:yg k g_0=some r) : Ret E W 20 [.agg [.int .i64 g_0.Epoch,
  .int .i64 g_0.Leader,lst cI g_0.InStep,.int .i64 g_0.High,lst Replica.cells g_0.Replicas]] h (fun v h'=>∃ rv0 rc0,v = .tup [rv0,
  .bool r.2]∧SlF Row.cells 2 98 rv0 r.1 rc0∧Sep h' (geL h.length) (rc0++([]))):=by
 refine Ret.of (fn:=x20) rfl (Run.of ?_)
 unfold yg at hF
 have zf0:ze [.agg [.int .i64 g_0.Epoch,.int .i64 g_0.Leader,lst cI g_0.InStep,.int .i64 g_0.High,lst Replica.cells g_0.Replicas]] 0 = .agg [.int .i64 g_0.Epoch,
   .int .i64 g_0.Leader,lst cI g_0.InStep,.int .i64 g_0.High,lst Replica.cells g_0.Replicas]:=rfl
 generalize ze [.agg [.int .i64 g_0.Epoch,.int .i64 g_0.Leader,lst cI g_0.InStep,.int .i64 g_0.High,lst Replica.cells g_0.Replicas]]=fr0 at zf0 ⊢
 have hS:Sep h (geL h.length) []:=Sep.nil h
 simp only [x20,qe,qd,kp,zf0,B0,reduceIte,reduceEqDiff]
 refine jz (cs:=[.int .i64 g_0.Epoch,.int .i64 g_0.Leader,lst cI g_0.InStep,.int .i64 g_0.High,lst Replica.cells g_0.Replicas]) hS rfl rfl rfl (fun b1 h2 hS3=>?_)
 simp only [qc,qa,B0,reduceIte,reduceEqDiff]
 refine zz hS3 hW (by simp only [B0,reduceIte,reduceEqDiff]) (fun h5 hS6=>?_)
 simp only [zw,q2c,qe,qd,qp,B0,reduceIte,reduceEqDiff]
 refine qj (v := .agg [.int .i64 g_0.Epoch,.int .i64 g_0.Leader,lst cI g_0.InStep,.int .i64 g_0.High,lst Replica.cells g_0.Replicas]) rfl ?_
 obtain ⟨v7,hx8,hF9⟩:=qi hF
 simp only [za,B0,reduceIte,reduceEqDiff]
 refine js rfl (qh (jd (qh qm (qh qm (qh zo (qh qm (qh zo qz)))))) qz) (qbr
   (fun b hb=>decide_eq_true hb) k g_0 v7 hx8) ?_
 simp only [ka,qb,kx,qa,q0c,zb,B0,reduceIte,reduceEqDiff]
 refine zd (t:=(!v7)) (fun hc10=>?_) (fun hc10=>?_)
 ·rw [iteT hc10] at hF9
  simp only [qe,qd,qc,qa,q8,B0,reduceIte,reduceEqDiff]
  have he:=ql hF9
  subst he
  simp only [qbs,B0,reduceIte,reduceEqDiff]
  exact ⟨.nil,[],by first | trivial | rfl,SlF.nil,(hS6:Sep _ (geL h.length) ([]))⟩
 rw [iteF hc10] at hF9
 simp only [zk,q3e,qe,jh,qcw,evp,B0,reduceIte,reduceEqDiff]
 refine ux (n:=2) (f:=Row.cells) ([] : List Row) hS6 rfl rfl (fun v11 c12 h13 hv14 hS15=>?_)
 simp only [zq,qg,Nat.reduceAdd,Nat.zero_add,Nat.add_zero,qr,zm,B0,reduceIte,reduceEqDiff]
 refine qq (v:=lst Replica.cells g_0.Replicas) rfl ?_
 simp only [zq,qg,Nat.reduceAdd,Nat.zero_add,Nat.add_zero,qr,zm,B0,reduceIte,reduceEqDiff]
 refine qq (v := .int .i64 g_0.Leader) rfl ?_
 obtain ⟨x17,hx18,hF19⟩:=qi hF9
 simp only [wo,B0,reduceIte,reduceEqDiff]
 refine qq (v := .ref (Replica.cells x17) 0) (kz hx18 rfl) ?_
 simp only [zq,qg,Nat.reduceAdd,Nat.zero_add,Nat.add_zero,qr,zm,B0,reduceIte,reduceEqDiff]
 refine qq (v:=lst Row.cells x17.Log) rfl ?_
 simp only [zq,qg,Nat.reduceAdd,Nat.zero_add,Nat.add_zero,qr,zm,B0,reduceIte,reduceEqDiff]
 refine qq (v := .int .i64 g_0.High) rfl ?_
 obtain ⟨l20,hx21,hF22⟩:=qi hF19
 simp only [qg9,Option.map_some,Option.map_none,B0,reduceIte,reduceEqDiff]
 refine qq (qi3 hx21 (fun _=>rfl)) ?_
 simp only [qg7,B0,reduceIte,reduceEqDiff]
 obtain ⟨l23,hx24,hF25⟩:=qi hF22
 refine qbt (f:=Row.cells) hv14 hS15 hW (fun _=>rfl) (fun _=>rfl) (qb9 (fun _=>rfl)) hx24 (fun v26 c27 h28 hv29 hS30=>?_)
 simp only [zp,qg,qu,q8,B0,reduceIte,reduceEqDiff]
 have he:=ql hF25
 subst he
 simp only [qbs,B0,reduceIte,reduceEqDiff]
 exact ⟨v26,c27,by first | trivial | rfl,hv29,hS30⟩
end Go.Proofs.Ytefgfcalgjmhjaa.X
namespace Go.Proofs.Ytefgfcalgjmhjaa.X
open Go
open Nat (reduceEqDiff)
theorem qfy {W:Nat→Bool}{h:Heap} (hW:∀ b,
  (geL h.length) b→W b=true) (k:Nat) (g_0:Group) (r:Bool) (hF:ue k g_0=some r) : Ret E W 21 [.agg [.int .i64 g_0.Epoch,.int .i64 g_0.Leader,
  lst cI g_0.InStep,.int .i64 g_0.High,lst Replica.cells g_0.Replicas]] h (fun v h'=>cut h.length h' E.sz false 9 v=some (.bool r)):=by
 refine Ret.of (fn:=x21) rfl (Run.of ?_)
 unfold ue at hF
 have zf0:ze [.agg [.int .i64 g_0.Epoch,.int .i64 g_0.Leader,lst cI g_0.InStep,.int .i64 g_0.High,lst Replica.cells g_0.Replicas]] 0 = .agg [.int .i64 g_0.Epoch,
   .int .i64 g_0.Leader,lst cI g_0.InStep,.int .i64 g_0.High,lst Replica.cells g_0.Replicas]:=rfl
 generalize ze [.agg [.int .i64 g_0.Epoch,.int .i64 g_0.Leader,lst cI g_0.InStep,.int .i64 g_0.High,lst Replica.cells g_0.Replicas]]=fr0 at zf0 ⊢
 have hS:Sep h (geL h.length) []:=Sep.nil h
 simp only [x21,qe,qd,kp,zf0,B0,reduceIte,reduceEqDiff]
 refine jz (cs:=[.int .i64 g_0.Epoch,.int .i64 g_0.Leader,lst cI g_0.InStep,.int .i64 g_0.High,lst Replica.cells g_0.Replicas]) hS rfl rfl rfl (fun b1 h2 hS3=>?_)
 simp only [qc,qa,B0,reduceIte,reduceEqDiff]
 refine zz hS3 hW (by simp only [B0,reduceIte,reduceEqDiff]) (fun h5 hS6=>?_)
 simp only [zw,qe,qd,qp,B0,reduceIte,reduceEqDiff]
 refine qj (v := .agg [.int .i64 g_0.Epoch,.int .i64 g_0.Leader,lst cI g_0.InStep,.int .i64 g_0.High,lst Replica.cells g_0.Replicas]) rfl ?_
 obtain ⟨v7,hx8,hF9⟩:=qi hF
 simp only [za,B0,reduceIte,reduceEqDiff]
 refine js rfl (qh (jd (qh qm (qh qm (qh zo (qh qm (qh zo qz)))))) qz) (qbr
   (fun b hb=>decide_eq_true hb) k g_0 v7 hx8) ?_
 simp only [qc,qa,q8,B0,reduceIte,reduceEqDiff]
 have he:=ql hF9
 subst he
 simp only [zj,B0,reduceIte,reduceEqDiff]
 exact rfl
theorem qmn {W:Nat→Bool}{h:Heap} (hW:∀ b,
  (geL h.length) b→W b=true) (k:Nat) (g_0:Group) (replica_1:Int) (r:Int × Bool) (hF:qay k g_0 replica_1=some r) : Ret E W 24 [.agg [.int .i64 g_0.Epoch,
  .int .i64 g_0.Leader,lst cI g_0.InStep,.int .i64 g_0.High,lst Replica.cells g_0.Replicas],
  .int .i64 replica_1] h (fun v h'=>cut h.length h' E.sz false 9 v=some (.tup [.int .i64 r.1,.bool r.2])):=by
 refine Ret.of (fn:=x24) rfl (Run.of ?_)
 unfold qay at hF
 have zf0:ze [.agg [.int .i64 g_0.Epoch,.int .i64 g_0.Leader,lst cI g_0.InStep,.int .i64 g_0.High,lst Replica.cells g_0.Replicas],
   .int .i64 replica_1] 0 = .agg [.int .i64 g_0.Epoch,.int .i64 g_0.Leader,lst cI g_0.InStep,.int .i64 g_0.High,lst Replica.cells g_0.Replicas]:=rfl
 have zf1:ze [.agg [.int .i64 g_0.Epoch,.int .i64 g_0.Leader,lst cI g_0.InStep,.int .i64 g_0.High,lst Replica.cells g_0.Replicas],
   .int .i64 replica_1] 1 = .int .i64 replica_1:=rfl
 generalize ze [.agg [.int .i64 g_0.Epoch,.int .i64 g_0.Leader,lst cI g_0.InStep,.int .i64 g_0.High,lst Replica.cells g_0.Replicas],.int .i64 replica_1]=fr0 at zf0 zf1 ⊢
 have hS:Sep h (geL h.length) []:=Sep.nil h
 simp only [x24,qe,qd,kp,zf0,B0,reduceIte,reduceEqDiff]
 refine jz (cs:=[.int .i64 g_0.Epoch,.int .i64 g_0.Leader,lst cI g_0.InStep,.int .i64 g_0.High,lst Replica.cells g_0.Replicas]) hS rfl rfl rfl (fun b1 h2 hS3=>?_)
 simp only [qc,qa,B0,reduceIte,reduceEqDiff]
 refine zz hS3 hW (by simp only [B0,reduceIte,reduceEqDiff]) (fun h5 hS6=>?_)
 simp only [zw,qwp,qe,qd,qp,B0,reduceIte,reduceEqDiff]
 refine qj (v := .agg [.int .i64 g_0.Epoch,.int .i64 g_0.Leader,lst cI g_0.InStep,.int .i64 g_0.High,lst Replica.cells g_0.Replicas]) rfl ?_
 obtain ⟨v7,hx8,hF9⟩:=qi hF
 simp only [za,B0,reduceIte,reduceEqDiff]
 refine js rfl (qh (jd (qh qm (qh qm (qh zo (qh qm (qh zo qz)))))) qz) (qbr
   (fun b hb=>decide_eq_true hb) k g_0 v7 hx8) ?_
 simp only [ka,qb,kx,qc,B0,reduceIte,reduceEqDiff]
 refine ji 8 (fun fr' h'=>Sep h' (geL h.length) ([])∧fr' 17 = .bool ((!v7)||(!(z7 replica_1 0 (IntKind.wrap .i64
   ((List.length g_0.Replicas:Int) - 1)))))∧fr' 1 = .int .i64 replica_1∧fr' 2 = .ref [.int .i64 g_0.Epoch,.int .i64 g_0.Leader,lst cI g_0.InStep,.int .i64 g_0.High,
   lst Replica.cells g_0.Replicas] 0) (fun Q10 hN11=>?_) ?_
 ·simp only [List.take_succ_cons,List.take_zero]
  simp only [qf (g:=9),B0,reduceIte,reduceEqDiff]
  refine zf (t:=(!v7)) (fun hg12=>?_) (fun hg12=>?_)
  ·simp only [hg12,qf (g:=9),jf,qt,qb,zh,qa,qo,B0,reduceIte,reduceEqDiff]
   exact hN11 _ _ ⟨hS6,by rw [orT hg12]; simp only [B0,reduceIte,reduceEqDiff],zf1,rfl⟩
  ·simp only [hg12,qf (g:=9),qv,zf1,qc,qs,qb,Nat.reduceAdd,Nat.zero_add,Nat.add_zero,qr,qp,B0,reduceIte,reduceEqDiff]
   refine qj (v:=lst Replica.cells g_0.Replicas) rfl ?_
   simp only [hg12,qf (g:=9),qv,jb,qb,jl,q9,qdd,za,B0,reduceIte,reduceEqDiff]
   refine js rfl (qh qm (qh qm (qh qm qz))) (w8 (fun b hb=>decide_eq_true hb) replica_1 0 (IntKind.wrap .i64
     ((List.length g_0.Replicas:Int) - 1)) _ rfl) ?_
   simp only [hg12,qf (g:=9),qv,ka,qb,kx,qt,zi,qa,qo,B0,reduceIte,reduceEqDiff]
   exact hN11 _ _ ⟨hS6,by rw [orF hg12]; simp only [B0,reduceIte,reduceEqDiff],zf1,rfl⟩
 rintro fr13 h17 ⟨hS18,f14,f15,f16⟩
 simp only [List.drop_succ_cons,List.drop_zero]
 simp only [qa,qvx,f14,zb,B0,reduceIte,reduceEqDiff]
 refine zd (t:=((!v7)||(!(z7 replica_1 0 (IntKind.wrap .i64 ((List.length g_0.Replicas:Int) - 1)))))) (fun hc19=>?_) (fun hc19=>?_)
 ·rw [iteT hc19] at hF9
  simp only [qe,qd,qc,qa,q8,B0,reduceIte,reduceEqDiff]
  have he:=ql hF9
  subst he
  simp only [qbs,B0,reduceIte,reduceEqDiff]
  exact qdx (qh rfl (qh rfl qz))
 rw [iteF hc19] at hF9
 simp only [zk,qxj,qe,jh,f16,uu,qg,Nat.reduceAdd,Nat.zero_add,Nat.add_zero,qr,wv,yz,B0,reduceIte,reduceEqDiff]
 refine qq (v:=lst Replica.cells g_0.Replicas) rfl ?_
 simp only [f16,uu,qg,Nat.reduceAdd,Nat.zero_add,Nat.add_zero,qr,wv,yz,B0,reduceIte,reduceEqDiff]
 refine qq (v := .int .i64 g_0.Leader) rfl ?_
 obtain ⟨x20,hx21,hF22⟩:=qi hF9
 simp only [q0m,B0,reduceIte,reduceEqDiff]
 refine qq (v := .ref (Replica.cells x20) 0) (kz hx21 rfl) ?_
 simp only [uu,qg,Nat.reduceAdd,Nat.zero_add,Nat.add_zero,qr,wv,yz,B0,reduceIte,reduceEqDiff]
 refine qq (v:=lst Row.cells x20.Log) rfl ?_
 simp only [qsd,qg,jl,f16,zm,B0,reduceIte,reduceEqDiff]
 refine qq (v := .agg [.int .i64 g_0.Epoch,.int .i64 g_0.Leader,lst cI g_0.InStep,.int .i64 g_0.High,lst Replica.cells g_0.Replicas]) rfl ?_
 obtain ⟨v23,hx24,hF25⟩:=qi hF22
 simp only [f15,zp,qg,yy,B0,reduceIte,reduceEqDiff]
 refine qd6 rfl (qh (jd (qh qm (qh qm (qh zo (qh qm (qh zo qz)))))) (qh qm qz)) (x8
   (fun b hb=>decide_eq_true hb) k g_0 replica_1 v23 hx24) ?_
 simp only [kh,qg,qdd,zp,qu,q8,B0,reduceIte,reduceEqDiff]
 have he:=ql hF25
 subst he
 simp only [qbs,B0,reduceIte,reduceEqDiff]
 exact qdx (qh rfl (qh rfl qz))
theorem qiz {W:Nat→Bool}{h:Heap}{lo:Nat→Prop}{S0:List Obj} (hW:∀ b,
  lo b→W b=true) (pb0:Nat) (c_0:L1Cur) (r:Int × L1Cur) (hF:qdv c_0=some r) (hS:Sep h lo ([Blk1 pb0 [lst cU8 c_0.code,.int .i64 c_0.at_,
  .int .u64 c_0.seed] 91]++(S0))) : Ret E W 86 [.ptr pb0 0] h (fun v h'=>v = .int .i64 r.1∧Sep h' lo ([Blk1 pb0 [lst cU8 r.2.code,.int .i64 r.2.at_,
  .int .u64 r.2.seed] 91]++(S0))):=by
 refine Ret.of (fn:=x86) rfl (Run.of ?_)
 unfold qdv at hF
 have zf0:ze [.ptr pb0 0] 0 = .ptr pb0 0:=rfl
 generalize ze [.ptr pb0 0]=fr0 at zf0 ⊢
 simp only [x86,qe,qd,qc,qa,q17,qw4,jh,zf0,zp,qg,k9,ja,zq,Nat.reduceAdd,Nat.zero_add,Nat.add_zero,
   qw,zm,B0,reduceIte,reduceEqDiff]
 refine qq (v := .int .i64 c_0.at_) ((zu (Sep.bk _ _ _ hS)).trans rfl) ?_
 simp only [zf0,zp,qg,k9,ja,zq,Nat.reduceAdd,Nat.zero_add,Nat.add_zero,qw,zm,B0,reduceIte,reduceEqDiff]
 refine qq (v:=lst cU8 c_0.code) ((zu (Sep.bk _ _ _ hS)).trans rfl) ?_
 simp only [qd2,qg,jl,kh,u0,qu,q0j,zb,B0,reduceIte,reduceEqDiff]
 obtain ⟨s1,hX3,hk4⟩:=qi hF
 refine qb4 (t:=(decide (c_0.at_<(List.length c_0.code:Int)))) (fun fr' h'=>fr' 0 = .ptr pb0 0∧fr' 3 = .int .i64 s1∧Sep h' lo ([Blk1 pb0 [lst cU8 c_0.code,
   .int .i64 c_0.at_,.int .u64 c_0.seed] 91]++(S0))) (fun Q5 hN6 hR7 hE8=>⟨fun hc9=>?_,fun hc9=>?_⟩) ?_
 ·rw [iteT hc9] at hX3
  simp only [q1h,jh,zf0,zp,qg,k9,ja,zq,Nat.reduceAdd,Nat.zero_add,Nat.add_zero,qw,zm,B0,reduceIte,reduceEqDiff]
  refine qq (v:=lst cU8 c_0.code) ((zu (Sep.bk _ _ _ hS)).trans rfl) ?_
  simp only [zf0,zp,qg,k9,ja,zq,Nat.reduceAdd,Nat.zero_add,Nat.add_zero,qw,zm,B0,reduceIte,reduceEqDiff]
  refine qq (v := .int .i64 c_0.at_) ((zu (Sep.bk _ _ _ hS)).trans rfl) ?_
  obtain ⟨x10,hx11,hF12⟩:=qi hX3
  simp only [wo,B0,reduceIte,reduceEqDiff]
  refine qq (v := .ref (cU8 x10) 0) (kz hx11 rfl) ?_
  simp only [zm,B0,reduceIte,reduceEqDiff]
  refine qq (v := .int .u8 x10) rfl ?_
  simp only [q5o,qg,qjt,zp,qu,qo,B0,reduceIte,reduceEqDiff]
  have e13:=ql hF12
  subst e13
  exact hN6 _ _ ⟨zf0,rfl,hS⟩
 ·rw [iteF hc9] at hX3
  simp only [zk,qo,B0,reduceIte,reduceEqDiff]
  have e14:=ql hX3
  subst e14
  exact hN6 _ _ ⟨zf0,rfl,hS⟩
 rintro fr15 h16 ⟨f18,f19,hS17⟩
 unfold qdz at hk4
 simp only [q0r,qe,qd,f18,qc,wl,qb,ja,qs,Nat.reduceAdd,Nat.zero_add,Nat.add_zero,qw,qp,B0,reduceIte,reduceEqDiff]
 refine qj (v := .int .i64 c_0.at_) ((zu (Sep.bk _ _ _ hS17)).trans rfl) ?_
 simp only [q9,qb,qbf,wl,ja,qs,Nat.reduceAdd,Nat.zero_add,Nat.add_zero,qw,zg,B0,reduceIte,reduceEqDiff]
 refine qy (us:=[.int .i64 (IntKind.wrap .i64 (c_0.at_+1))]) rfl (cs':=[lst cU8 c_0.code,.int .i64 (IntKind.wrap .i64 (c_0.at_+1)),
   .int .u64 c_0.seed]) hS17 hW rfl rfl (Nat.le_of_ble_eq_true rfl) rfl (fun h20 hS21=>?_)
 simp only [qa,qwu,qe,qd,f18,qc,wl,qb,ja,qs,Nat.reduceAdd,Nat.zero_add,Nat.add_zero,qw,qp,B0,reduceIte,
   reduceEqDiff]
 refine qj (v := .int .u64 c_0.seed) ((zu (Sep.bk _ _ _ hS21)).trans rfl) ?_
 simp only [q9,qb,q41,f19,qc,qkp,qjt,qbf,wl,ja,qs,Nat.reduceAdd,Nat.zero_add,Nat.add_zero,qw,zg,B0,reduceIte,
   reduceEqDiff]
 refine qy (us:=[.int .u64 (IntKind.wrap .u64 ((IntKind.wrap .u64 ((IntKind.wrap .u64 (c_0.seed*6364136223846793005)) +
   (IntKind.wrap .u64 s1)))+1442695040888963407))]) rfl (cs':=[lst cU8 c_0.code,.int .i64 (IntKind.wrap .i64 (c_0.at_+1)),
   .int .u64 (IntKind.wrap .u64 ((IntKind.wrap .u64 ((IntKind.wrap .u64 (c_0.seed*6364136223846793005))+(IntKind.wrap .u64 s1)))+1442695040888963407))]) hS21 hW rfl rfl
   (Nat.le_of_ble_eq_true rfl) rfl (fun h22 hS23=>?_)
 simp only [qa,qwn,qe,jh,f18,zp,qg,k9,ja,zq,Nat.reduceAdd,Nat.zero_add,Nat.add_zero,qw,zm,B0,reduceIte,
   reduceEqDiff]
 refine qq (v := .int .i64 (IntKind.wrap .i64 (c_0.at_+1))) ((zu (Sep.bk _ _ _ hS23)).trans rfl) ?_
 simp only [f18,zp,qg,k9,ja,zq,Nat.reduceAdd,Nat.zero_add,Nat.add_zero,qw,zm,B0,reduceIte,reduceEqDiff]
 refine qq (v:=lst cU8 c_0.code) ((zu (Sep.bk _ _ _ hS23)).trans rfl) ?_
 simp only [qd2,qg,jl,kh,qi8,qu,qxn,zb,B0,reduceIte,reduceEqDiff]
 refine zd (t:=(decide ((IntKind.wrap .i64 (c_0.at_+1))≤(List.length c_0.code:Int)))) (fun hc24=>?_) (fun hc24=>?_)
 ·rw [iteT hc24] at hk4
  simp only [qe,qd,f19,qc,qa,q8,B0,reduceIte,reduceEqDiff]
  have he:=ql hk4
  subst he
  simp only [zj,B0,reduceIte,reduceEqDiff]
  exact ⟨by first | trivial | rfl,hS23⟩
 rw [iteF hc24] at hk4
 simp only [zk,q2q,qe,qd,f18,qc,wl,qb,ja,qs,Nat.reduceAdd,Nat.zero_add,Nat.add_zero,qw,qp,B0,reduceIte,
   reduceEqDiff]
 refine qj (v := .int .u64 (IntKind.wrap .u64 ((IntKind.wrap .u64 ((IntKind.wrap .u64 (c_0.seed*6364136223846793005))+(IntKind.wrap .u64 s1)))+1442695040888963407)))
   ((zu (Sep.bk _ _ _ hS23)).trans rfl) ?_
 simp only [q9,qb,qog (n:=40) (by decide),q40,qkp,qjt,qc,qa,q8,B0,reduceIte,reduceEqDiff]
 have he:=ql hk4
 subst he
 simp only [zj,B0,reduceIte,reduceEqDiff]
 exact ⟨by first | trivial | rfl,hS23⟩
theorem k7 {W:Nat→Bool}{h:Heap}{lo:Nat→Prop}{S0:List Obj} (hW:∀ b,
  lo b→W b=true) (pb0:Nat) (c_0:L1Cur) (n_1:Int) (r:Int × L1Cur) (hF:kj c_0 n_1=some r) (hS:Sep h lo ([Blk1 pb0 [lst cU8 c_0.code,.int .i64 c_0.at_,
  .int .u64 c_0.seed] 91]++(S0))) : Ret E W 62 [.ptr pb0 0,.int .i64 n_1] h (fun v h'=>v = .int .i64 r.1∧Sep h' lo ([Blk1 pb0 [lst cU8 r.2.code,.int .i64 r.2.at_,
  .int .u64 r.2.seed] 91]++(S0))):=by
 refine Ret.of (fn:=x62) rfl (Run.of ?_)
 unfold kj at hF
 have zf0:ze [.ptr pb0 0,.int .i64 n_1] 0 = .ptr pb0 0:=rfl
 have zf1:ze [.ptr pb0 0,.int .i64 n_1] 1 = .int .i64 n_1:=rfl
 generalize ze [.ptr pb0 0,.int .i64 n_1]=fr0 at zf0 zf1 ⊢
 simp only [x62,qe,qd,qc,qa,q19,zf1,q9,qb,qi8,zb,B0,reduceIte,reduceEqDiff]
 refine zd (t:=(decide (n_1≤1))) (fun hc1=>?_) (fun hc1=>?_)
 ·rw [iteT hc1] at hF
  simp only [qe,qd,qc,qa,q8,B0,reduceIte,reduceEqDiff]
  have he:=ql hF
  subst he
  simp only [zj,B0,reduceIte,reduceEqDiff]
  exact ⟨by first | trivial | rfl,hS⟩
 rw [iteF hc1] at hF
 obtain ⟨v2,hx3,hF4⟩:=qi hF
 simp only [zk,qw8,qe,qd,zf0,qc,za,B0,reduceIte,reduceEqDiff]
 refine ku rfl (qiz hW pb0 c_0 v2 hx3 hS) ?_
 rintro _ h5 ⟨rfl,hS6⟩
 simp only [qc,qa,qza,qe,qd,zf1,q9,qb,qcv,q0l,zb,B0,reduceIte,reduceEqDiff]
 refine zd (t:=(decide ((200:Int)<n_1))) (fun hc7=>?_) (fun hc7=>?_)
 ·rw [iteT hc7] at hF4
  obtain ⟨v8,hx9,hF10⟩:=qi hF4
  simp only [qyv,qd,qc,q9,qb,q41,zf0,za,B0,reduceIte,reduceEqDiff]
  refine ku rfl (qiz hW pb0 v2.2 v8 hx9 hS6) ?_
  rintro _ h11 ⟨rfl,hS12⟩
  obtain ⟨hp13,hF14⟩:=qiq hF10
  simp only [q9,qb,qbf,qc,qa,qpl,qe,qd,zf1,qof (n:=n_1) hp13,q8,B0,reduceIte,reduceEqDiff]
  have he:=ql hF14
  subst he
  simp only [zj,B0,reduceIte,reduceEqDiff]
  exact ⟨by first | trivial | rfl,hS12⟩
 rw [iteF hc7] at hF4
 obtain ⟨hp15,hF16⟩:=qiq hF4
 simp only [zk,qpl,qe,qd,qc,zf1,q9,qb,qof (n:=n_1) hp15,qa,q8,B0,reduceIte,reduceEqDiff]
 have he:=ql hF16
 subst he
 simp only [zj,B0,reduceIte,reduceEqDiff]
 exact ⟨by first | trivial | rfl,hS6⟩
theorem qjy {W:Nat→Bool}{h:Heap}{lo:Nat→Prop}{S0:List Obj} (hW:∀ b,
  lo b→W b=true) (pb0:Nat) (c_0:L1Cur) (n_1:Int) (r:Bool × L1Cur) (hF:qeg c_0 n_1=some r) (hS:Sep h lo ([Blk1 pb0 [lst cU8 c_0.code,.int .i64 c_0.at_,
  .int .u64 c_0.seed] 91]++(S0))) : Ret E W 87 [.ptr pb0 0,.int .i64 n_1] h (fun v h'=>v = .bool r.1∧Sep h' lo ([Blk1 pb0 [lst cU8 r.2.code,.int .i64 r.2.at_,
  .int .u64 r.2.seed] 91]++(S0))):=by
 refine Ret.of (fn:=x87) rfl (Run.of ?_)
 unfold qeg at hF
 have zf0:ze [.ptr pb0 0,.int .i64 n_1] 0 = .ptr pb0 0:=rfl
 have zf1:ze [.ptr pb0 0,.int .i64 n_1] 1 = .int .i64 n_1:=rfl
 generalize ze [.ptr pb0 0,.int .i64 n_1]=fr0 at zf0 zf1 ⊢
 obtain ⟨v1,hx2,hF3⟩:=qi hF
 simp only [x87,qe,qd,qc,qa,q20,zf0,zf1,za,B0,reduceIte,reduceEqDiff]
 refine ku rfl (k7 hW pb0 c_0 n_1 v1 hx2 hS) ?_
 rintro _ h4 ⟨rfl,hS5⟩
 simp only [q9,qb,yd,qc,qa,q8,B0,reduceIte,reduceEqDiff]
 have he:=ql hF3
 subst he
 simp only [zj,B0,reduceIte,reduceEqDiff]
 exact ⟨by first | trivial | rfl,hS5⟩
theorem qh6 {W:Nat→Bool}{h:Heap}{lo:Nat→Prop}{S0:List Obj} (hW:∀ b,
  lo b→W b=true) (pb0:Nat) (c_0:L1Cur) (pv1:XV) (pc1:List Obj) (list_1:List Int) (ph1:SlF cI 1 3 pv1 list_1 pc1) (r:Int × L1Cur × (List Int))
  (hF:qc4 c_0 list_1=some r) (hS:Sep h lo ([Blk1 pb0 [lst cU8 c_0.code,.int .i64 c_0.at_,.int .u64 c_0.seed] 91]++(pc1++(S0)))) : Ret E W 88 [.ptr pb0 0,
  pv1] h (fun v h'=>∃ ic1,v = .int .i64 r.1∧SlF cI 1 3 pv1 r.2.2 ic1∧Sep h' lo ([Blk1 pb0 [lst cU8 r.2.1.code,.int .i64 r.2.1.at_,
  .int .u64 r.2.1.seed] 91]++(ic1++(S0)))):=by
 refine Ret.of (fn:=x88) rfl (Run.of ?_)
 unfold qc4 at hF
 have zf0:ze [.ptr pb0 0,pv1] 0 = .ptr pb0 0:=rfl
 have zf1:ze [.ptr pb0 0,pv1] 1=pv1:=rfl
 generalize ze [.ptr pb0 0,pv1]=fr0 at zf0 zf1 ⊢
 obtain ⟨v1,hx2,hF3⟩:=qi hF
 simp only [x88,qe,qd,qc,qa,qvy,zf1,zf0,jb,qb,SlF.plen ph1,za,B0,reduceIte,reduceEqDiff]
 refine ku rfl (k7 hW pb0 c_0 (List.length list_1:Int) v1 hx2 hS) ?_
 rintro _ h4 ⟨rfl,hS5⟩
 obtain ⟨x6,hx7,hF8⟩:=qi hF3
 simp only [j0,B0,reduceIte,reduceEqDiff]
 obtain ⟨b9,hb10⟩:=SlF.isrow ph1 (ur hx7)
 refine qj (SlF.ia ph1 hb10 hx7) ?_
 simp only [qp,B0,reduceIte,reduceEqDiff]
 refine qj (v := .int .i64 x6) ((SlF.ld (o:=0) ph1 (Sep.m1 hS5) hb10 hx7 (fun _=>rfl) (Nat.le_of_ble_eq_true rfl)).trans rfl) ?_
 simp only [qc,qa,q8,B0,reduceIte,reduceEqDiff]
 have he:=ql hF8
 subst he
 simp only [zj,B0,reduceIte,reduceEqDiff]
 exact ⟨pc1,by first | trivial | rfl,ph1,(Sep.m1 (Sep.m1 hS5))⟩
theorem qgg {W:Nat→Bool}{h:Heap}{lo:Nat→Prop}{S0:List Obj} (hW:∀ b,
  lo b→W b=true) (k:Nat) (pb0:Nat) (c_0:L1Cur) (replicas_1:Int) (r:(List IsrStep) × L1Cur) (hF:uw k c_0 replicas_1=some r) (hS:Sep h lo
  ([Blk1 pb0 [lst cU8 c_0.code,.int .i64 c_0.at_,.int .u64 c_0.seed] 91]++(S0))) : Ret E W 63 [.ptr pb0 0,.int .i64 replicas_1] h (fun v h'=>∃ rv0 rc0,
  v=rv0∧SlF IsrStep.cells 3 63 rv0 r.1 rc0∧Sep h' lo (rc0++([Blk1 pb0 [lst cU8 r.2.code,.int .i64 r.2.at_,.int .u64 r.2.seed] 91]++(S0)))):=by
 refine Ret.of (fn:=x63) rfl (Run.of ?_)
 unfold uw at hF
 have zf0:ze [.ptr pb0 0,.int .i64 replicas_1] 0 = .ptr pb0 0:=rfl
 have zf1:ze [.ptr pb0 0,.int .i64 replicas_1] 1 = .int .i64 replicas_1:=rfl
 generalize ze [.ptr pb0 0,.int .i64 replicas_1]=fr0 at zf0 zf1 ⊢
 obtain ⟨v1,hx2,hF3⟩:=qi hF
 simp only [x63,qe,qd,qc,qa,qq1,qrg,zf0,za,B0,reduceIte,reduceEqDiff]
 refine ku rfl (k7 hW pb0 c_0 40 v1 hx2 hS) ?_
 rintro _ h4 ⟨rfl,hS5⟩
 obtain ⟨v6,hx7,hF8⟩:=qi hF3
 simp only [qc,qa,qua,qe,qd,zf0,za,B0,reduceIte,reduceEqDiff]
 refine ku rfl (qjy hW pb0 v1.2 8 v6 hx7 hS5) ?_
 rintro _ h9 ⟨rfl,hS10⟩
 simp only [qa,q0e,zb,B0,reduceIte,reduceEqDiff]
 obtain ⟨sv16,hX14,hk15⟩:=qi hF8
 refine qb4 (t:=v6.1) (fun fr' h'=>fr' 0 = .ptr pb0 0∧fr' 1 = .int .i64 replicas_1∧fr' 5 = .nil∧fr' 6 = .int .i64 sv16.1∧Sep h' lo ([Blk1 pb0 [lst cU8 sv16.2.code,
   .int .i64 sv16.2.at_,.int .u64 sv16.2.seed] 91]++(S0))) (fun Q17 hN18 hR19 hE20=>⟨fun hc21=>?_,fun hc21=>?_⟩) ?_
 ·rw [iteT hc21] at hX14
  obtain ⟨v22,hx23,hF24⟩:=qi hX14
  simp only [q0p,qd,zf0,qc,za,B0,reduceIte,reduceEqDiff]
  refine ku rfl (k7 hW pb0 v6.2 12 v22 hx23 hS10) ?_
  rintro _ h25 ⟨rfl,hS26⟩
  simp only [q9,qb,qbf,qc,qa,qo,B0,reduceIte,reduceEqDiff]
  have e27:=ql hF24
  subst e27
  exact hN18 _ _ ⟨zf0,zf1,rfl,rfl,hS26⟩
 ·rw [iteF hc21] at hX14
  simp only [zk,qo,B0,reduceIte,reduceEqDiff]
  have e28:=ql hX14
  subst e28
  exact hN18 _ _ ⟨zf0,zf1,rfl,rfl,hS10⟩
 rintro fr29 h30 ⟨f32,f33,f34,f35,hS31⟩
 obtain ⟨s11,s12⟩:=sv16
 dsimp only at *
 unfold qdp at hk15
 simp only [qse,qe,B0,reduceIte,reduceEqDiff]
 obtain ⟨oc52,hX54,hk55⟩:=kq hk15
 simp only [qt3]
 refine qfn (σ:=(List IsrStep) × Int × L1Cur) (fun s228=>wy replicas_1 s228.1 s228.2.1 s228.2.2) (fun s fr' h'=>∃ v45 c46,
   fr' 0 = .ptr pb0 0∧fr' 1 = .int .i64 replicas_1∧fr' 5=v45∧fr' 6 = .int .i64 s.2.1∧SlF IsrStep.cells 3 63 v45 s.1 c46∧Sep h' lo ([Blk1 pb0 [lst cU8 s.2.2.code,
   .int .i64 s.2.2.at_,.int .u64 s.2.2.seed] 91]++(c46++(S0)))) hX54 ⟨.nil,[],f32,f33,f34,f35,SlF.nil,(hS31:Sep _ lo ([Blk1 pb0 [lst cU8 s12.code,
   .int .i64 s12.at_,.int .u64 s12.seed] 91]++(S0)))⟩ (fun _ _ _ h=>h) ?_ ?_
 ·rintro ⟨s43,s48,s49⟩ fr64 h65 ⟨v45,c46,f67,f68,f69,f70,hv47,hS66⟩ oc53 hF56 hr57 Q58 hN59 hK60 hR61 hE62
  dsimp only at *
  unfold wy at hF56
  simp only [qsj,qe,qd,f70,qc,q9,qb,qcv,qa,zb,B0,reduceIte,reduceEqDiff]
  refine zd (t:=(decide ((0:Int)<s48))) (fun hc72=>?_) (fun hc72=>?_)
  ·rw [iteT hc72] at hF56
   simp only [zk,qp5,qe,w6,qsz,qd,f67,qc,yu,evp,B0,reduceIte,reduceEqDiff]
   refine ye (n:=1) (f:=cI) [1,2,2,2,3,3,3,3,4,5,6,6,6] hS66 rfl rfl (fun v73 c74 h75 hv76 hS77=>?_)
   obtain ⟨v79,hx80,hF81⟩:=qi hF56
   simp only [za,B0,reduceIte,reduceEqDiff]
   refine ku rfl (qh6 hW pb0 s49 v73 c74 [1,2,2,2,3,3,3,3,4,5,6,6,6] hv76 v79 hx80 (Sep.m1 hS77)) ?_
   rintro _ h84 ⟨c82,rfl,hv83,hS85⟩
   simp only [run_build,evp,B0,reduceIte,reduceEqDiff]
   refine qj (v := .agg [.int .i64 v79.1,.int .i64 0,.int .i64 0]) rfl ?_
   simp only [je,B0,reduceIte,reduceEqDiff]
   refine zt hS85 (fun b86 h87 hS88=>?_)
   simp only [zg,B0,reduceIte,reduceEqDiff]
   refine qy (us:=[.int .i64 v79.1,.int .i64 0,.int .i64 0]) rfl (cs':=[.int .i64 v79.1,.int .i64 0,
     .int .i64 0]) hS88 hW rfl rfl (Nat.le_of_ble_eq_true rfl) rfl (fun h90 hS91=>?_)
   simp only [qa,qst,qe,qd,qs,qb,Nat.reduceAdd,Nat.zero_add,Nat.add_zero,qw,qp,B0,reduceIte,reduceEqDiff]
   refine qj (v := .int .i64 v79.1) ((zu (Sep.bk _ _ _ hS91)).trans rfl) ?_
   simp only [qa,qqo,w6,qqt,qe,qd,q9,qb,yd,qc,qtb,zb,B0,reduceIte,reduceEqDiff]
   obtain ⟨sv97,hX95,hk96⟩:=qi hF81
   refine qb4 (t:=(decide (v79.1=2)))
     (fun fr' h'=>fr' 0 = .ptr pb0 0∧fr' 1 = .int .i64 replicas_1∧fr' 5=v45∧fr' 6 = .int .i64 s48∧fr' 7 = .ptr b86 0∧Sep h' lo ([Blk1 pb0 [lst cU8 sv97.1.code,
     .int .i64 sv97.1.at_,.int .u64 sv97.1.seed] 91]++(c46++([Blk1 b86 [.int .i64 sv97.2.Kind,.int .i64 sv97.2.K,
     .int .i64 sv97.2.N] 63]++(S0))))) (fun Q98 hN99 hR100 hE101=>⟨fun hc102=>?_,fun hc102=>?_⟩) ?_
   ·rw [iteT hc102] at hX95
    obtain ⟨v103,hx104,hF105⟩:=qi hX95
    simp only [qyk,qd,f67,qc,za,B0,reduceIte,reduceEqDiff]
    refine ku rfl (k7 hW pb0 v79.2.1 9 v103 hx104 (Sep.m1 hS91)) ?_
    rintro _ h106 ⟨rfl,hS107⟩
    simp only [qs,qb,Nat.reduceAdd,Nat.zero_add,Nat.add_zero,qw,zg,B0,reduceIte,reduceEqDiff]
    refine qy (us:=[.int .i64 v103.1]) rfl (cs':=[.int .i64 v79.1,.int .i64 0,
      .int .i64 v103.1]) (Sep.m1 hS107) hW rfl rfl (Nat.le_of_ble_eq_true rfl) rfl (fun h108 hS109=>?_)
    simp only [qa,qo,B0,reduceIte,reduceEqDiff]
    have e110:=ql hF105
    subst e110
    exact hN99 _ _ ⟨f67,f68,f69,f70,rfl,(Sep.m2 (Sep.m2 (Sep.dc (Sep.m2 hS109))))⟩
   ·rw [iteF hc102] at hX95
    simp only [qta,qe,qd,q9,qb,yd,qc,qa,qtd,zb,B0,reduceIte,reduceEqDiff]
    refine zd (t:=(decide (v79.1=3))) (fun hc111=>?_) (fun hc111=>?_)
    ·rw [iteT hc111] at hX95
     obtain ⟨v112,hx113,hF114⟩:=qi hX95
     simp only [qv0,qd,f67,qc,f68,za,B0,reduceIte,reduceEqDiff]
     refine ku rfl (k7 hW pb0 v79.2.1 replicas_1 v112 hx113 (Sep.m1 hS91)) ?_
     rintro _ h115 ⟨rfl,hS116⟩
     obtain ⟨v117,hx118,hF119⟩:=qi hF114
     simp only [f67,qc,za,B0,reduceIte,reduceEqDiff]
     refine ku rfl (k7 hW pb0 v112.2 4 v117 hx118 hS116) ?_
     rintro _ h120 ⟨rfl,hS121⟩
     simp only [run_build,evp,B0,reduceIte,reduceEqDiff]
     refine qj (v := .agg [.int .i64 3,.int .i64 v112.1,.int .i64 v117.1]) rfl ?_
     simp only [zg,B0,reduceIte,reduceEqDiff]
     refine qy (us:=[.int .i64 3,.int .i64 v112.1,.int .i64 v117.1]) rfl (cs':=[.int .i64 3,.int .i64 v112.1,
       .int .i64 v117.1]) (Sep.m1 hS121) hW rfl rfl (Nat.le_of_ble_eq_true rfl) rfl (fun h122 hS123=>?_)
     simp only [qa,qo,B0,reduceIte,reduceEqDiff]
     have e124:=ql hF119
     subst e124
     exact hN99 _ _ ⟨f67,f68,f69,f70,rfl,(Sep.m2 (Sep.m2 (Sep.dc (Sep.m2 hS123))))⟩
    rw [iteF hc111] at hX95
    simp only [qqb,qe,qd,q9,qb,yd,qc,qa,qwy,zb,B0,reduceIte,reduceEqDiff]
    obtain ⟨s125,hX127,hk128⟩:=qi hX95
    refine qb4 (t:=(decide (v79.1=1)))
      (fun fr' h'=>fr' 0 = .ptr pb0 0∧fr' 1 = .int .i64 replicas_1∧fr' 5=v45∧fr' 6 = .int .i64 s48∧fr' 7 = .ptr b86 0∧fr' 38 = .bool s125∧Sep h' lo
      ([Blk1 pb0 [lst cU8 v79.2.1.code,.int .i64 v79.2.1.at_,.int .u64 v79.2.1.seed] 91]++(c46++([Blk1 b86 [.int .i64 v79.1,.int .i64 0,
      .int .i64 0] 63]++(S0))))) (fun Q129 hN130 hR131 hE132=>⟨fun hc133=>?_,fun hc133=>?_⟩) ?_
    ·rw [iteT hc133] at hX127
     simp only [zk,qo,B0,reduceIte,reduceEqDiff]
     have e134:=ql hX127
     subst e134
     exact hN130 _ _ ⟨f67,f68,f69,f70,rfl,rfl,(Sep.m2 (Sep.m2 (Sep.dc (Sep.m2 hS91))))⟩
    ·rw [iteF hc133] at hX127
     simp only [qzi,qe,qd,q9,qb,yd,qc,qa,qw1,zb,B0,reduceIte,reduceEqDiff]
     refine zd (t:=(decide (v79.1=4))) (fun hc135=>?_) (fun hc135=>?_)
     ·rw [iteT hc135] at hX127
      simp only [zk,qo,B0,reduceIte,reduceEqDiff]
      have e136:=ql hX127
      subst e136
      exact hN130 _ _ ⟨f67,f68,f69,f70,rfl,rfl,(Sep.m2 (Sep.m2 (Sep.dc (Sep.m2 hS91))))⟩
     rw [iteF hc135] at hX127
     simp only [qd,q9,qb,yd,qc,qa,qo,B0,reduceIte,reduceEqDiff]
     have e137:=ql hX127
     subst e137
     exact hN130 _ _ ⟨f67,f68,f69,f70,rfl,rfl,(Sep.m2 (Sep.m2 (Sep.dc (Sep.m2 hS91))))⟩
    rintro fr138 h139 ⟨f141,f142,f143,f144,f145,f146,hS140⟩
    unfold qbz at hk128
    simp only [q3h,f146,zb,B0,reduceIte,reduceEqDiff]
    refine zd (t:=s125) (fun hc147=>?_) (fun hc147=>?_)
    ·rw [iteT hc147] at hk128
     obtain ⟨v148,hx149,hF150⟩:=qi hk128
     simp only [q22,qd,f141,qc,f142,za,B0,reduceIte,reduceEqDiff]
     refine ku rfl (k7 hW pb0 v79.2.1 replicas_1 v148 hx149 hS140) ?_
     rintro _ h151 ⟨rfl,hS152⟩
     simp only [f145,qs,qb,Nat.reduceAdd,Nat.zero_add,Nat.add_zero,qw,zg,B0,reduceIte,reduceEqDiff]
     refine qy (us:=[.int .i64 v148.1]) rfl (cs':=[.int .i64 v79.1,.int .i64 v148.1,
       .int .i64 0]) (Sep.m2 hS152) hW rfl rfl (Nat.le_of_ble_eq_true rfl) rfl (fun h153 hS154=>?_)
     simp only [qa,qo,B0,reduceIte,reduceEqDiff]
     have e155:=ql hF150
     subst e155
     exact hN99 _ _ ⟨f141,f142,f143,f144,f145,(Sep.m2 (Sep.m2 hS154))⟩
    rw [iteF hc147] at hk128
    simp only [zk,qo,B0,reduceIte,reduceEqDiff]
    have e156:=ql hk128
    subst e156
    exact hN99 _ _ ⟨f141,f142,f143,f144,f145,(Sep.m2 (Sep.m2 (Sep.m2 hS140)))⟩
   rintro fr158 h159 ⟨f161,f162,f163,f164,f165,hS160⟩
   obtain ⟨s92,s93⟩:=sv97
   dsimp only at *
   unfold qam at hk96
   obtain ⟨v166,hx167,hF168⟩:=qi hk96
   simp only [wb,qpy,qe,qd,f161,qc,za,B0,reduceIte,reduceEqDiff]
   refine ku rfl (qjy hW pb0 s92 60 v166 hx167 hS160) ?_
   rintro _ h169 ⟨rfl,hS170⟩
   simp only [qa,qte,zb,B0,reduceIte,reduceEqDiff]
   obtain ⟨sv176,hX174,hk175⟩:=qi hF168
   refine qb4 (t:=v166.1) (fun fr' h'=>fr' 0 = .ptr pb0 0∧fr' 1 = .int .i64 replicas_1∧fr' 5=v45∧fr' 6 = .int .i64 s48∧fr' 7 = .ptr b86 0∧Sep h' lo
     ([Blk1 pb0 [lst cU8 sv176.1.code,.int .i64 sv176.1.at_,.int .u64 sv176.1.seed] 91]++(c46++([Blk1 b86 [.int .i64 sv176.2.Kind,.int .i64 sv176.2.K,
     .int .i64 sv176.2.N] 63]++(S0))))) (fun Q177 hN178 hR179 hE180=>⟨fun hc181=>?_,fun hc181=>?_⟩) ?_
   ·rw [iteT hc181] at hX174
    obtain ⟨v182,hx183,hF184⟩:=qi hX174
    simp only [qsq,qd,f161,qc,za,B0,reduceIte,reduceEqDiff]
    refine ku rfl (k7 hW pb0 v166.2 8 v182 hx183 hS170) ?_
    rintro _ h185 ⟨rfl,hS186⟩
    obtain ⟨v187,hx188,hF189⟩:=qi hF184
    simp only [f161,qc,za,B0,reduceIte,reduceEqDiff]
    refine ku rfl (k7 hW pb0 v182.2 6 v187 hx188 hS186) ?_
    rintro _ h190 ⟨rfl,hS191⟩
    obtain ⟨v192,hx193,hF194⟩:=qi hF189
    simp only [q9,qb,qdd,f161,qc,za,B0,reduceIte,reduceEqDiff]
    refine ku rfl (k7 hW pb0 v187.2 40 v192 hx193 hS191) ?_
    rintro _ h195 ⟨rfl,hS196⟩
    simp only [q9,qb,qdd,run_build,evp,B0,reduceIte,reduceEqDiff]
    refine qj (v := .agg [.int .i64 v182.1,.int .i64 (IntKind.wrap .i64 (v187.1 - 1)),.int .i64 (IntKind.wrap .i64 (v192.1 - 1))]) rfl ?_
    simp only [f165,zg,B0,reduceIte,reduceEqDiff]
    refine qy (us:=[.int .i64 v182.1,.int .i64 (IntKind.wrap .i64 (v187.1 - 1)),.int .i64 (IntKind.wrap .i64 (v192.1 - 1))]) rfl (cs':=[.int .i64 v182.1,
      .int .i64 (IntKind.wrap .i64 (v187.1 - 1)),
      .int .i64 (IntKind.wrap .i64 (v192.1 - 1))]) (Sep.m2 hS196) hW rfl rfl (Nat.le_of_ble_eq_true rfl) rfl (fun h197 hS198=>?_)
    simp only [qa,qo,B0,reduceIte,reduceEqDiff]
    have e199:=ql hF194
    subst e199
    exact hN178 _ _ ⟨f161,f162,f163,f164,f165,(Sep.m2 (Sep.m2 hS198))⟩
   ·rw [iteF hc181] at hX174
    simp only [zk,qo,B0,reduceIte,reduceEqDiff]
    have e200:=ql hX174
    subst e200
    exact hN178 _ _ ⟨f161,f162,f163,f164,f165,(Sep.m2 (Sep.m2 (Sep.m2 hS170)))⟩
   rintro fr201 h202 ⟨f204,f205,f206,f207,f208,hS203⟩
   obtain ⟨s171,s172⟩:=sv176
   dsimp only at *
   unfold qbx at hk175
   simp only [qqa,qd,f206,qc,f208,qp,B0,reduceIte,reduceEqDiff]
   refine qj (v := .agg [.int .i64 s172.Kind,.int .i64 s172.K,.int .i64 s172.N]) ((zv (Sep.bk _ _ _ (Sep.m2 hS203))).trans rfl) ?_
   simp only [yu,evp,B0,reduceIte,reduceEqDiff]
   refine ye (n:=3) (f:=IsrStep.cells) [s172] hS203 rfl rfl (fun v209 c210 h211 hv212 hS213=>?_)
   simp only [uc,B0,reduceIte,reduceEqDiff]
   obtain ⟨l215,hx216,hF217⟩:=qi hk175
   refine wq (f:=IsrStep.cells) hv47 (Sep.m2 hS213) hW (fun _=>rfl) (fun _=>rfl) (SlF.first hv212 hS213 (fun _=>rfl)) hx216 (fun v218 c219 h220 hv221 hS222=>?_)
   simp only [qc,qa,wb,qd,f207,q9,qb,qdd,qo,B0,reduceIte,reduceEqDiff]
   have e224:=ql hF217
   exact hN59 _ _ _ e224.symm ⟨v218,c219,f204,f205,rfl,rfl,hv221,(Sep.m1 (Sep.dc (Sep.m2 (Sep.dc (Sep.m1 hS222)))))⟩
  rw [iteF hc72] at hF56
  simp only [qdq,qci,qdt,B0,reduceIte,reduceEqDiff]
  have e227:=ql hF56
  exact hK60 _ _ _ e227.symm ⟨v45,c46,f67,f68,f69,f70,hv47,(Sep.m1 (Sep.m1 hS66))⟩
 rintro ⟨s229,s234,s235⟩ fr236 h237 rfl ⟨v231,c232,f239,f240,f241,f242,hv233,hS238⟩
 dsimp only [jnO] at hk55
 dsimp only at *
 unfold qbv at hk55
 simp only [qe,qd,f241,qc,qa,q8,B0,reduceIte,reduceEqDiff]
 have he:=ql hk55
 subst he
 simp only [zj,B0,reduceIte,reduceEqDiff]
 exact ⟨v231,c232,by first | trivial | rfl,hv233,(Sep.m1 hS238)⟩
theorem qgb {W:Nat→Bool}{h:Heap} (hW:∀ b,
  (geL h.length) b→W b=true) (k:Nat) (replicas_0:Int) (r:Group × Bool) (hF:yv k replicas_0=some r) : Ret E W 42 [.int .i64 replicas_0] h
  (fun v h'=>∃ rv0_2 rc0_2 rv0_4 rc0_4,v = .tup [.agg [.int .i64 r.1.Epoch,.int .i64 r.1.Leader,rv0_2,.int .i64 r.1.High,rv0_4],
  .bool r.2]∧SlF cI 1 3 rv0_2 r.1.InStep rc0_2∧SlN Replica.R 3 51 rv0_4 r.1.Replicas rc0_4∧Sep h' (geL h.length) (rc0_2++(rc0_4++([])))):=by
 refine Ret.of (fn:=x42) rfl (Run.of ?_)
 unfold yv at hF
 have zf0:ze [.int .i64 replicas_0] 0 = .int .i64 replicas_0:=rfl
 generalize ze [.int .i64 replicas_0]=fr0 at zf0 ⊢
 have hS:Sep h (geL h.length) []:=Sep.nil h
 simp only [x42,qe,qd,je,B0,reduceIte,reduceEqDiff]
 refine zt hS (fun b1 h2 hS3=>?_)
 simp only [qc,qa,q1f,qe,qd,zf0,za,B0,reduceIte,reduceEqDiff]
 refine js rfl (qh qm (qh qm (qh qm qz))) (qab (fun b hb=>decide_eq_true hb) replicas_0 2 4 _ rfl) ?_
 simp only [ka,qb,kx,qa,qwl,zb,B0,reduceIte,reduceEqDiff]
 refine zd (t:=(!(z9 replicas_0 2 4))) (fun hc5=>?_) (fun hc5=>?_)
 ·rw [iteT hc5] at hF
  simp only [qe,qd,run_build,evp,B0,reduceIte,reduceEqDiff]
  refine qj (v := .agg [.int .i64 0,.int .i64 0,.nil,.int .i64 0,.nil]) rfl ?_
  simp only [zg,B0,reduceIte,reduceEqDiff]
  refine qy (us:=[.int .i64 0,.int .i64 0,.nil,.int .i64 0,.nil]) rfl (cs':=[.int .i64 0,.int .i64 0,.nil,.int .i64 0,
    .nil]) hS3 hW rfl rfl (Nat.le_of_ble_eq_true rfl) rfl (fun h6 hS7=>?_)
  simp only [qc,qa,q8,B0,reduceIte,reduceEqDiff]
  have he:=ql hF
  subst he
  refine jy (qh (j6 (bb:=b1) (oo:=0) (v := .agg [.int .i64 0,.int .i64 0,.nil,.int .i64 0,
    .nil]) (rfl) ((zv (Sep.bk _ _ _ hS7)).trans rfl)) (qh (yq (v := .bool false) (rfl)) qz)) ?_
  exact ⟨.nil,[],.nil,[],by first | trivial | rfl,SlF.nil,SlN.nil,((Sep.dc (hS7)) : Sep _ (geL h.length) ([]))⟩
 rw [iteF hc5] at hF
 obtain ⟨l8,hx9,hF10⟩:=qi hF
 simp only [zk,q0h,qe,qd,zf0,qc,qoi,B0,reduceIte,reduceEqDiff]
 refine qle (R:=Replica.R) (e:=(Replica.mk [] (0:Int) (0:Int))) (z:=[.nil,.int .i64 0,
   .int .i64 0]) hS3 hx9 (Replica.RI (x:=(Replica.mk [] 0 0)) SlF.nil) rfl (fun v11 c12 h13 hv14 hS15=>?_)
 simp only [run_build,evp,B0,reduceIte,reduceEqDiff]
 refine qj (v := .agg [.int .i64 0,.int .i64 0,.nil,.int .i64 0,v11]) (qev (qdi (us:=[v11]) (vs:=[.int .i64 0,.int .i64 0,.nil,.int .i64 0,
   v11]) (k5 (SlN.one hv14)) rfl (Nat.le_of_ble_eq_true rfl) (qk (SlN.one hv14) zn) rfl qio)) ?_
 simp only [je,B0,reduceIte,reduceEqDiff]
 refine zt hS15 (fun b17 h18 hS19=>?_)
 simp only [zg,B0,reduceIte,reduceEqDiff]
 refine qy (us:=[.int .i64 0,.int .i64 0,.nil,.int .i64 0,v11]) rfl (cs':=[.int .i64 0,.int .i64 0,.nil,.int .i64 0,
   v11]) hS19 hW rfl (qk rfl (qk rfl (qk rfl (qk rfl (qk (SlN.one hv14) zn))))) (Nat.le_of_ble_eq_true rfl) rfl (fun h21 hS22=>?_)
 simp only [qa,q1r,qe,qd,qc,B0,reduceIte,reduceEqDiff]
 obtain ⟨oc37,hX39,hk40⟩:=kq hF10
 simp only [qxc]
 refine qfn (σ:=Int × Group) (fun s77=>qaf replicas_0 l8 s77.1 s77.2) (fun s fr' h'=>∃ v32 c33,
   fr' 0 = .int .i64 replicas_0∧fr' 2 = .ptr b1 0∧fr' 4 = .ptr b17 0∧fr' 5 = .int .i64 s.1∧SlF cI 1 3 v32 s.2.InStep c33∧Sep h' (geL h.length) ([Blk1 b1 [.int .i64 0,
   .int .i64 0,.nil,.int .i64 0,.nil] 29]++([Blk1 b17 [.int .i64 s.2.Epoch,.int .i64 s.2.Leader,v32,.int .i64 s.2.High,
   v11] 29]++(c33++(c12++([])))))) hX39 ⟨.nil,[],zf0,rfl,rfl,rfl,SlF.nil,((Sep.m2 (Sep.m1 (Sep.m1 hS22))) : Sep _ (geL h.length) ([Blk1 b1 [.int .i64 0,
   .int .i64 0,.nil,.int .i64 0,.nil] 29]++([Blk1 b17 [.int .i64 0,.int .i64 0,.nil,.int .i64 0,v11] 29]++(c12++([])))))⟩ (fun _ _ _ h=>h) ?_ ?_
 ·rintro ⟨s29,s30⟩ fr49 h50 ⟨v32,c33,f52,f53,f54,f55,hv34,hS51⟩ oc38 hF41 hr42 Q43 hN44 hK45 hR46 hE47
  dsimp only at *
  unfold qaf at hF41
  simp only [q0f,qe,qd,f55,qc,f52,q9,qb,u0,qa,zb,B0,reduceIte,reduceEqDiff]
  refine zd (t:=(decide (s29<replicas_0))) (fun hc57=>?_) (fun hc57=>?_)
  ·rw [iteT hc57] at hF41
   simp only [zk,qzo,qe,w6,qx3,qd,f54,qs,qb,Nat.reduceAdd,Nat.zero_add,Nat.add_zero,qw,qp,B0,reduceIte,
     reduceEqDiff]
   refine qj (v:=v32) ((zu (Sep.bk _ _ _ (Sep.m1 hS51))).trans rfl) ?_
   simp only [f55,qc,yu,evp,B0,reduceIte,reduceEqDiff]
   refine ye (n:=1) (f:=cI) [s29] hS51 rfl rfl (fun v58 c59 h60 hv61 hS62=>?_)
   simp only [uc,B0,reduceIte,reduceEqDiff]
   obtain ⟨l64,hx65,hF66⟩:=qi hF41
   refine wq (f:=cI) hv34 (Sep.m3 hS62) hW (fun _=>rfl) (fun _=>rfl) (SlF.first hv61 hS62 (fun _=>rfl)) hx65 (fun v67 c68 h69 hv70 hS71=>?_)
   simp only [f54,qs,qb,Nat.reduceAdd,Nat.zero_add,Nat.add_zero,qw,zg,B0,reduceIte,reduceEqDiff]
   refine qy (us:=[v67]) (k5 (SlF.one hv70)) (cs':=[.int .i64 s30.Epoch,.int .i64 s30.Leader,v67,.int .i64 s30.High,
     v11]) (Sep.m3 hS71) hW rfl (qk (SlF.one hv70) zn) (Nat.le_of_ble_eq_true rfl) rfl (fun h73 hS74=>?_)
   simp only [qa,wb,qd,f55,qc,q9,qb,qbf,qo,B0,reduceIte,reduceEqDiff]
   have e75:=ql hF66
   exact hN44 _ _ _ e75.symm ⟨v67,c68,f52,f53,f54,rfl,hv70,(Sep.m3 (Sep.m2 (Sep.m2 (Sep.m3 (Sep.dc (Sep.m2 hS74))))))⟩
  rw [iteF hc57] at hF41
  simp only [qdq,qci,qdt,B0,reduceIte,reduceEqDiff]
  have e76:=ql hF41
  exact hK45 _ _ _ e76.symm ⟨v32,c33,f52,f53,f54,f55,hv34,(Sep.m3 (Sep.m3 (Sep.m3 (Sep.m3 hS51))))⟩
 rintro ⟨s78,s79⟩ fr84 h85 rfl ⟨v81,c82,f87,f88,f89,f90,hv83,hS86⟩
 dsimp only [jnO] at hk40
 dsimp only at *
 unfold qf2 at hk40
 simp only [qe,qd,f89,qp,B0,reduceIte,reduceEqDiff]
 refine qj (v := .agg [.int .i64 s79.Epoch,.int .i64 s79.Leader,v81,.int .i64 s79.High,v11]) ((zv (Sep.bk _ _ _ (Sep.m1 hS86))).trans rfl) ?_
 simp only [f88,zg,B0,reduceIte,reduceEqDiff]
 refine qy (us:=[.int .i64 s79.Epoch,.int .i64 s79.Leader,v81,.int .i64 s79.High,v11]) rfl (cs':=[.int .i64 s79.Epoch,.int .i64 s79.Leader,v81,
   .int .i64 s79.High,v11]) hS86 hW rfl (qk rfl (qk rfl (qk (SlF.one hv83) (qk rfl (qk (SlN.one hv14) zn))))) (Nat.le_of_ble_eq_true rfl) rfl
   (fun h91 hS92=>?_)
 simp only [qc,qa,q8,B0,reduceIte,reduceEqDiff]
 have he:=ql hk40
 subst he
 refine jy (qh (j6 (bb:=b1) (oo:=0) (v := .agg [.int .i64 s79.Epoch,.int .i64 s79.Leader,v81,.int .i64 s79.High,
   v11]) (f88) ((zv (Sep.bk _ _ _ hS92)).trans rfl)) (qh (yq (v := .bool true) (rfl)) qz)) ?_
 exact ⟨v81,c82,v11,c12,by first | trivial | rfl,hv83,hv14,(Sep.m1 (Sep.m1 (Sep.dc ((Sep.dc (hS92))))))⟩
end Go.Proofs.Ytefgfcalgjmhjaa.X
