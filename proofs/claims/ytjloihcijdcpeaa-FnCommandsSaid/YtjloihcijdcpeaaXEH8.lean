/- The functions' code comes to what the plain functions say (8). -/
import Derived.Test.YtjloihcijdcpeaaXEH7
open Go.IntKind renaming wrap→d8
open List renaming append_assoc→f6,drop_succ_cons→b7,drop_zero→e8,length→b6,nil_append→o8,take_succ_cons→d7,take_zero→e9
open Nat renaming add_zero→b4,reduceAdd→a8,reduceEqDiff→a7,zero_add→a9
open Go.Proofs.Ytjloihcijdcpeaa.X.Sep renaming bk→l9,dc→l6,m1→f8,m2→f0,m3→i5,m4→o6,m5→s7,m6→r5,m8→r8,ni2→a1d,nil→a0t,no2→a13
open Go.Proofs.Ytjloihcijdcpeaa.X.SlF renaming first→a2g,free1→a0k,nil→a1l,one→n7,pf→a1n,snap→a0g
open Go.Proofs.Ytjloihcijdcpeaa.X.SlG renaming cls0→a1u,opn→a12,toN→a1c
open Go.Proofs.Ytjloihcijdcpeaa.X.SlN renaming free1→a01,isrow→a1y,len→a2h,one→t7,pf→a2d,snap→a09,toG→a11
set_option linter.unusedVariables false
set_option linter.unusedSimpArgs false
set_option maxRecDepth 100000
namespace Go.Proofs.Ytjloihcijdcpeaa.X
open Go
theorem qhx {W:Nat→Bool}{h:Heap} (hW:∀ b,
  (geL h.length) b→W b=true) (k:Nat) (code_0:List Int) (r:Control) (hF:xy k code_0=some r) : Ret E W 23 [lst cU8 code_0] h
  (fun v h'=>∃ rv0_0 rc0_0 rv0_1 rc0_1,v = .agg [rv0_0,rv0_1,
  .int .i64 r.Next]∧SlF qe 3 86 rv0_0 r.Brokers rc0_0∧SlN Partition.R 5 39 rv0_1 r.Parts rc0_1∧Sep h' (geL h.length) (rc0_0++(rc0_1++([])))):=by
 refine Ret.of (fn:=x23) rfl (Run.of ?_)
 unfold xy at hF
 have zf0:zj [lst cU8 code_0] 0=lst cU8 code_0:=rfl
 generalize zj [lst cU8 code_0]=fr0 at zf0 ⊢
 have hS:Sep h (geL h.length) []:=a0t h
 simp only [x23,qh,qf,z5,B0,reduceIte,a7]
 refine zt hS (fun b1 h2 hS3=>?_)
 obtain ⟨v5,hx6,hF7⟩:=qk hF
 simp only [qa,qh,qf,zf0,qg,za,B0,reduceIte,a7]
 refine wq rfl hS3 (ql zn zd) (qhs (fun b hb=>decide_eq_true hb) k code_0 v5 hx6) ?_
 rintro _ h16 ⟨v8,c9,v12,c13,rfl,hv10,hv14,hS17⟩
 refine ⟨_,qeu (qo (a0k hv10) (qo (a01 hv14) (qo rfl zl))),hS17,(jg (a1n hv10 (fun _=>rfl)) (jg (a2d hv14 Partition.RO) ye)),
   fun h18 hS19=>?_⟩
 have hS20:Sep h18 (geL h.length) (c9++(c13++([Blk1 b1 [.nil,.nil,.int .i64 0] 29]++([])))):=by simpa only [f6,o8] using hS19
 simp only [zk,B0,reduceIte,a7]
 refine zb (us:=[v8,v12,.int .i64 v5.Next]) rfl (cs':=[v8,v12,
   .int .i64 v5.Next]) (f0 hS20) hW rfl (qo (n7 hv10) (qo (t7 hv14) (qo rfl zl))) (nle rfl) rfl (fun h21 hS22=>?_)
 simp only [qa,q8,B0,reduceIte,a7]
 have he:=qj hF7
 subst he
 refine jk (bb:=b1) (oo:=0) (v := .agg [v8,v12,.int .i64 v5.Next]) (by simp only [B0,reduceIte,a7]) ((zw (l9 _ _ _ hS22)).trans rfl) ?_
 exact ⟨v8,c9,v12,c13,by first | trivial | rfl,hv10,hv14,(f8 (f8 (l6 (hS22))))⟩
theorem qi5 {W:Nat→Bool}{h:Heap} (hW:∀ b,
  (geL h.length) b→W b=true) (c_0:Control) (r:(List Int) × Bool) (hF:uv c_0=some r) : Ret E W 24 [.agg [lst qe c_0.Brokers,
  lst qd c_0.Parts,.int .i64 c_0.Next]] h (fun v h'=>cut h.length h' E.sz false 9 v=some (.tup [lst cI r.1,.bool r.2])):=by
 refine Ret.of (fn:=x24) rfl (Run.of ?_)
 unfold uv at hF
 have zf0:zj [.agg [lst qe c_0.Brokers,lst qd c_0.Parts,.int .i64 c_0.Next]] 0 = .agg [lst qe c_0.Brokers,lst qd c_0.Parts,
   .int .i64 c_0.Next]:=rfl
 generalize zj [.agg [lst qe c_0.Brokers,lst qd c_0.Parts,.int .i64 c_0.Next]]=fr0 at zf0 ⊢
 have hS:Sep h (geL h.length) []:=a0t h
 simp only [x24,qh,qf,jp,zf0,B0,reduceIte,a7]
 refine jc (cs:=[lst qe c_0.Brokers,lst qd c_0.Parts,.int .i64 c_0.Next]) hS rfl rfl rfl (fun b1 h2 hS3=>?_)
 simp only [qg,qa,B0,reduceIte,a7]
 refine zq hS3 hW (by simp only [B0,reduceIte,a7]) (fun h5 hS6=>?_)
 simp only [zp,qt6,qh,qf,qm,B0,reduceIte,a7]
 refine qi (v := .agg [lst qe c_0.Brokers,lst qd c_0.Parts,.int .i64 c_0.Next]) rfl ?_
 obtain ⟨v7,hx8,hF9⟩:=qk hF
 simp only [za,B0,reduceIte,a7]
 refine ja rfl (ql (z4 (ql zn (ql zn (ql qu zd)))) zd) (xl (fun b hb=>decide_eq_true hb) c_0 v7 hx8) ?_
 simp only [je,qb,jt,qa,q7g,qz,B0,reduceIte,a7]
 refine qx (t:=(!v7)) (fun hc10=>?_) (fun hc10=>?_)
 ·rw [iteT hc10] at hF9
  simp only [qh,qf,qg,qa,q8,B0,reduceIte,a7]
  have he:=qj hF9
  subst he
  simp only [ur,B0,reduceIte,a7]
  exact qcx (ql rfl (ql rfl zd))
 rw [iteF hc10] at hF9
 simp only [zf,q1e,qh,qf,qg,qa,qzx,qp,qb,a8,a9,b4,qs,qm,B0,reduceIte,
   a7]
 refine qi (v:=lst qe c_0.Brokers) rfl ?_
 simp only [zx,qb,z1,qg,qa,B0,reduceIte,a7]
 obtain ⟨oc23,hX25,hk26⟩:=jo hF9
 simp only [q4f]
 refine ku (σ:=(List Int)) c_0.Brokers (fun i21 x22 s69=>qbd i21 x22 s69) (fun s fr' h'=>∃ v18 c19,
   fr' 4=v18∧fr' 11=lst qe c_0.Brokers∧SlF cI 1 3 v18 s c19∧Sep h' (geL h.length) (c19++([]))) hX25 ⟨.nil,[],rfl,rfl,a1l,
   (hS6:Sep _ (geL h.length) ([]))⟩ (by simp only [B0,reduceIte,a7]) (by simp only [B0,reduceIte,
   a7]) (fun _ _ _ h=>h) rfl rfl (fun _ _ _ _ h=>h) (fun _ _ _ _ h=>h) (fun _ _ _ _ h=>h) (by decide) ?_ ?_
 ·rintro i21 x22 s16 fr35 h36 hx40 ⟨v18,c19,f38,f39,hv20,hS37⟩ f41 f42 oc24 hF27 hr28 Q29 hN30 hB34 hK31 hR32 hE33
  unfold qbd at hF27
  simp only [q6u,qh,qf,f41,qg,f39,jf,B0,reduceIte,a7]
  refine qi (v := .ref (qe x22) 0) (kt hx40 rfl) ?_
  simp only [qm,B0,reduceIte,a7]
  refine qi (v := .agg [.int .i64 x22.Epoch,.int .i64 x22.Left,.bool x22.Fenced]) rfl ?_
  simp only [z5,B0,reduceIte,a7]
  refine zt hS37 (fun b43 h44 hS45=>?_)
  simp only [qg,zk,B0,reduceIte,a7]
  refine zb (us:=[.int .i64 x22.Epoch,.int .i64 x22.Left,.bool x22.Fenced]) rfl (cs':=[.int .i64 x22.Epoch,.int .i64 x22.Left,
    .bool x22.Fenced]) hS45 hW rfl rfl (nle rfl) rfl (fun h47 hS48=>?_)
  simp only [qa,B0,reduceIte,a7]
  refine zq hS48 hW (by simp only [B0,reduceIte,a7]) (fun h49 hS50=>?_)
  simp only [zp,qz5,qh,qf,qp,qb,a8,a9,b4,qs,qm,B0,reduceIte,a7]
  refine qi (v := .bool x22.Fenced) rfl ?_
  simp only [je,qb,jt,qa,q5y,qz,B0,reduceIte,a7]
  refine qx (t:=(!x22.Fenced)) (fun hc51=>?_) (fun hc51=>?_)
  ·rw [iteT hc51] at hF27
   simp only [q69,qf,f38,qg,j0,evp,B0,reduceIte,a7]
   refine ju (n:=1) (f:=cI) [(i21:Int)] hS50 rfl rfl (fun v52 c53 h54 hv55 hS56=>?_)
   simp only [wz,B0,reduceIte,a7]
   obtain ⟨l58,hx59,hF60⟩:=qk hF27
   refine yx (f:=cI) hv20 (f8 hS56) hW (fun _=>rfl) (fun _=>rfl) (a2g hv55 hS56 (fun _=>rfl)) hx59 (fun v61 c62 h63 hv64 hS65=>?_)
   simp only [qg,qa,qn,B0,reduceIte,a7]
   have e67:=qj hF60
   exact hN30 _ _ _ e67.symm ⟨v61,c62,rfl,f39,hv64,(l6 (f8 hS65))⟩ (f41) (f42)
  rw [iteF hc51] at hF27
  simp only [zf,qn,B0,reduceIte,a7]
  have e68:=qj hF27
  exact hN30 _ _ _ e68.symm ⟨v18,c19,f38,f39,hv20,hS50⟩ (f41) (f42)
 rintro s70 fr75 h76 rfl ⟨v72,c73,f78,f79,hv74,hS77⟩
 dsimp only [jnO] at hk26
 unfold qe9 at hk26
 simp only [qh,qf,f78,qg,qa,q8,B0,reduceIte,a7]
 have he:=qj hk26
 subst he
 simp only [ur,B0,reduceIte,a7]
 exact qcx (ql (SlF.cut hv74 hS77 (fun _ hb=>hb) rfl (fun _=>rfl) (fun _=>rfl)) (ql rfl zd))
theorem qiz {W:Nat→Bool}{h:Heap} (hW:∀ b,
  (geL h.length) b→W b=true) (c_0:Control) (r:(List Int) × Bool) (hF:uh c_0=some r) : Ret E W 25 [.agg [lst qe c_0.Brokers,
  lst qd c_0.Parts,.int .i64 c_0.Next]] h (fun v h'=>cut h.length h' E.sz false 9 v=some (.tup [lst cI r.1,.bool r.2])):=by
 refine Ret.of (fn:=x25) rfl (Run.of ?_)
 unfold uh at hF
 have zf0:zj [.agg [lst qe c_0.Brokers,lst qd c_0.Parts,.int .i64 c_0.Next]] 0 = .agg [lst qe c_0.Brokers,lst qd c_0.Parts,
   .int .i64 c_0.Next]:=rfl
 generalize zj [.agg [lst qe c_0.Brokers,lst qd c_0.Parts,.int .i64 c_0.Next]]=fr0 at zf0 ⊢
 have hS:Sep h (geL h.length) []:=a0t h
 simp only [x25,qh,qf,jp,zf0,B0,reduceIte,a7]
 refine jc (cs:=[lst qe c_0.Brokers,lst qd c_0.Parts,.int .i64 c_0.Next]) hS rfl rfl rfl (fun b1 h2 hS3=>?_)
 simp only [qg,qa,B0,reduceIte,a7]
 refine zq hS3 hW (by simp only [B0,reduceIte,a7]) (fun h5 hS6=>?_)
 simp only [zp,qr0,qh,qf,qm,B0,reduceIte,a7]
 refine qi (v := .agg [lst qe c_0.Brokers,lst qd c_0.Parts,.int .i64 c_0.Next]) rfl ?_
 obtain ⟨v7,hx8,hF9⟩:=qk hF
 simp only [za,B0,reduceIte,a7]
 refine ja rfl (ql (z4 (ql zn (ql zn (ql qu zd)))) zd) (xl (fun b hb=>decide_eq_true hb) c_0 v7 hx8) ?_
 simp only [je,qb,jt,qa,q19,qz,B0,reduceIte,a7]
 refine qx (t:=(!v7)) (fun hc10=>?_) (fun hc10=>?_)
 ·rw [iteT hc10] at hF9
  simp only [qh,qf,qg,qa,q8,B0,reduceIte,a7]
  have he:=qj hF9
  subst he
  simp only [ur,B0,reduceIte,a7]
  exact qcx (ql rfl (ql rfl zd))
 rw [iteF hc10] at hF9
 simp only [zf,q08,qh,qf,qg,qa,qy0,qp,qb,a8,a9,b4,qs,qm,B0,reduceIte,
   a7]
 refine qi (v:=lst qd c_0.Parts) rfl ?_
 simp only [zx,qb,z1,qg,qa,B0,reduceIte,a7]
 obtain ⟨oc23,hX25,hk26⟩:=jo hF9
 simp only [q00]
 refine ku (σ:=(List Int)) c_0.Parts (fun i21 x22 s69=>qcn i21 x22 s69) (fun s fr' h'=>∃ v18 c19,
   fr' 4=v18∧fr' 11=lst qd c_0.Parts∧SlF cI 1 3 v18 s c19∧Sep h' (geL h.length) (c19++([]))) hX25 ⟨.nil,[],rfl,rfl,a1l,
   (hS6:Sep _ (geL h.length) ([]))⟩ (by simp only [B0,reduceIte,a7]) (by simp only [B0,reduceIte,
   a7]) (fun _ _ _ h=>h) rfl rfl (fun _ _ _ _ h=>h) (fun _ _ _ _ h=>h) (fun _ _ _ _ h=>h) (by decide) ?_ ?_
 ·rintro i21 x22 s16 fr35 h36 hx40 ⟨v18,c19,f38,f39,hv20,hS37⟩ f41 f42 oc24 hF27 hr28 Q29 hN30 hB34 hK31 hR32 hE33
  unfold qcn at hF27
  simp only [q4k,qh,qf,f41,qg,f39,jf,B0,reduceIte,a7]
  refine qi (v := .ref (qd x22) 0) (kt hx40 rfl) ?_
  simp only [qm,B0,reduceIte,a7]
  refine qi (v := .agg [lst cI x22.Homes,lst cI x22.InStep,.int .i64 x22.Leader,.int .i64 x22.Epoch,.int .i64 x22.Stamp]) rfl ?_
  simp only [z5,B0,reduceIte,a7]
  refine zt hS37 (fun b43 h44 hS45=>?_)
  simp only [qg,zk,B0,reduceIte,a7]
  refine zb (us:=[lst cI x22.Homes,lst cI x22.InStep,.int .i64 x22.Leader,.int .i64 x22.Epoch,.int .i64 x22.Stamp]) rfl (cs':=[lst cI x22.Homes,
    lst cI x22.InStep,.int .i64 x22.Leader,.int .i64 x22.Epoch,.int .i64 x22.Stamp]) hS45 hW rfl rfl (nle rfl) rfl (fun h47 hS48=>?_)
  simp only [qa,B0,reduceIte,a7]
  refine zq hS48 hW (by simp only [B0,reduceIte,a7]) (fun h49 hS50=>?_)
  simp only [zp,qy3,qh,qf,qp,qb,a8,a9,b4,qs,qm,B0,reduceIte,a7]
  refine qi (v := .int .i64 x22.Leader) rfl ?_
  simp only [qv,qb,z8,qa,q4d,qz,B0,reduceIte,a7]
  refine qx (t:=(decide (x22.Leader=(-1)))) (fun hc51=>?_) (fun hc51=>?_)
  ·rw [iteT hc51] at hF27
   simp only [q4r,qf,f38,qg,j0,evp,B0,reduceIte,a7]
   refine ju (n:=1) (f:=cI) [(i21:Int)] hS50 rfl rfl (fun v52 c53 h54 hv55 hS56=>?_)
   simp only [wz,B0,reduceIte,a7]
   obtain ⟨l58,hx59,hF60⟩:=qk hF27
   refine yx (f:=cI) hv20 (f8 hS56) hW (fun _=>rfl) (fun _=>rfl) (a2g hv55 hS56 (fun _=>rfl)) hx59 (fun v61 c62 h63 hv64 hS65=>?_)
   simp only [qg,qa,qn,B0,reduceIte,a7]
   have e67:=qj hF60
   exact hN30 _ _ _ e67.symm ⟨v61,c62,rfl,f39,hv64,(l6 (f8 hS65))⟩ (f41) (f42)
  rw [iteF hc51] at hF27
  simp only [zf,qn,B0,reduceIte,a7]
  have e68:=qj hF27
  exact hN30 _ _ _ e68.symm ⟨v18,c19,f38,f39,hv20,hS50⟩ (f41) (f42)
 rintro s70 fr75 h76 rfl ⟨v72,c73,f78,f79,hv74,hS77⟩
 dsimp only [jnO] at hk26
 unfold qer at hk26
 simp only [qh,qf,f78,qg,qa,q8,B0,reduceIte,a7]
 have he:=qj hk26
 subst he
 simp only [ur,B0,reduceIte,a7]
 exact qcx (ql (SlF.cut hv74 hS77 (fun _ hb=>hb) rfl (fun _=>rfl) (fun _=>rfl)) (ql rfl zd))
theorem qh5 {W:Nat→Bool}{h:Heap} (hW:∀ b,
  (geL h.length) b→W b=true) (code_0:List Int) (r:Int) (hF:uo code_0=some r) : Ret E W 26 [lst cU8 code_0] h
  (fun v h'=>cut h.length h' E.sz false 9 v=some (.int .i64 r)):=by
 refine Ret.of (fn:=x26) rfl (Run.of ?_)
 unfold uo at hF
 have zf0:zj [lst cU8 code_0] 0=lst cU8 code_0:=rfl
 generalize zj [lst cU8 code_0]=fr0 at zf0 ⊢
 have hS:Sep h (geL h.length) []:=a0t h
 simp only [x26,qh,qf,qg,qa,q3i,zf0,run_build,evp,B0,reduceIte,a7]
 refine qi (v := .agg [lst cU8 code_0,.int .i64 0,.int .u64 0]) rfl ?_
 simp only [jp,B0,reduceIte,a7]
 refine jc (cs:=[lst cU8 code_0,.int .i64 0,.int .u64 0]) hS rfl rfl rfl (fun b1 h2 hS3=>?_)
 obtain ⟨v5,hx6,hF7⟩:=qk hF
 simp only [qg,qa,qh,qf,za,B0,reduceIte,a7]
 refine kp rfl (kd hW b1 (L1Cur.mk code_0 0 0) 9 v5 hx6 hS3) ?_
 rintro _ h8 ⟨rfl,hS9⟩
 simp only [qg,qa,q8,B0,reduceIte,a7]
 have he:=qj hF7
 subst he
 simp only [zg,B0,reduceIte,a7]
 exact rfl
theorem qjs {W:Nat→Bool}{h:Heap} (hW:∀ b,
  (geL h.length) b→W b=true) (brokers_0:Int) (r:Control) (hF:qbr brokers_0=some r) : Ret E W 47 [.int .i64 brokers_0] h
  (fun v h'=>∃ rv0_0 rc0_0 rv0_1 rc0_1,v = .agg [rv0_0,rv0_1,
  .int .i64 r.Next]∧SlF qe 3 86 rv0_0 r.Brokers rc0_0∧SlN Partition.R 5 39 rv0_1 r.Parts rc0_1∧Sep h' (geL h.length) (rc0_0++(rc0_1++([])))):=by
 refine Ret.of (fn:=x47) rfl (Run.of ?_)
 unfold qbr at hF
 have zf0:zj [.int .i64 brokers_0] 0 = .int .i64 brokers_0:=rfl
 generalize zj [.int .i64 brokers_0]=fr0 at zf0 ⊢
 have hS:Sep h (geL h.length) []:=a0t h
 simp only [x47,qh,qf,z5,B0,reduceIte,a7]
 refine zt hS (fun b1 h2 hS3=>?_)
 simp only [qa,q09,qh,qf,run_build,evp,B0,reduceIte,a7]
 refine qi (v := .agg [.nil,.nil,.int .i64 1]) rfl ?_
 simp only [z5,B0,reduceIte,a7]
 refine zt hS3 (fun b5 h6 hS7=>?_)
 simp only [zk,B0,reduceIte,a7]
 refine zb (us:=[.nil,.nil,.int .i64 1]) rfl (cs':=[.nil,.nil,.int .i64 1]) hS7 hW rfl rfl (nle rfl) rfl (fun h9 hS10=>?_)
 simp only [qa,q5z,qh,qf,zf0,qg,B0,reduceIte,a7]
 obtain ⟨oc23,hX25,hk26⟩:=jo hF
 simp only [q0k]
 refine qa8 (σ:=Control) (fun i21 s61=>uz i21 s61) (fun s fr' h'=>∃ v18 c19,
   fr' 2 = .ptr b1 0∧fr' 3 = .ptr b5 0∧SlF qe 3 86 v18 s.Brokers c19∧Sep h' (geL h.length) ([Blk1 b1 [.nil,.nil,.int .i64 0] 29]++([Blk1 b5 [v18,.nil,
   .int .i64 s.Next] 29]++(c19++([]))))) hX25 ⟨.nil,[],rfl,rfl,a1l,((f8 hS10) : Sep _ (geL h.length) ([Blk1 b1 [.nil,.nil,
   .int .i64 0] 29]++([Blk1 b5 [.nil,.nil,.int .i64 1] 29]++([]))))⟩ (by simp only [B0,reduceIte,a7]) (by simp only [B0,reduceIte,
   a7]) (fun _ _ _ h=>h) rfl rfl (fun _ _ _ _ h=>h) (fun _ _ _ _ h=>h) (fun _ _ _ _ h=>h) (by decide) ?_ ?_
 ·rintro i21 s16 fr35 h36 hx40 ⟨v18,c19,f38,f39,hv20,hS37⟩ f41 f42 oc24 hF27 hr28 Q29 hN30 hB34 hK31 hR32 hE33
  unfold uz at hF27
  simp only [q2s,qf,f39,qp,qb,a8,a9,b4,q9,qm,B0,reduceIte,a7]
  refine qi (v:=v18) ((z6 (l9 _ _ _ (f8 hS37))).trans rfl) ?_
  simp only [run_build,evp,B0,reduceIte,a7]
  refine qi (v := .agg [.int .i64 0,.int .i64 0,.bool true]) rfl ?_
  simp only [j0,evp,B0,reduceIte,a7]
  refine ju (n:=3) (f:=qe) [(Broker.mk 0 0 true)] hS37 rfl rfl (fun v43 c44 h45 hv46 hS47=>?_)
  simp only [wz,B0,reduceIte,a7]
  obtain ⟨l49,hx50,hF51⟩:=qk hF27
  refine yx (f:=qe) hv20 (i5 hS47) hW (fun _=>rfl) (fun _=>rfl) (a2g hv46 hS47 (fun _=>rfl)) hx50 (fun v52 c53 h54 hv55 hS56=>?_)
  simp only [f39,qp,qb,a8,a9,b4,q9,zk,B0,reduceIte,a7]
  refine zb (us:=[v52]) (kw (n7 hv55)) (cs':=[v52,.nil,
    .int .i64 s16.Next]) (i5 hS56) hW rfl (qo (n7 hv55) zl) (nle rfl) rfl (fun h58 hS59=>?_)
  simp only [qa,qn,B0,reduceIte,a7]
  have e60:=qj hF51
  exact hN30 _ _ _ e60.symm ⟨v52,c53,f38,f39,hv55,(f0 (f8 (f8 (l6 (f0 hS59)))))⟩ (f41) (f42)
 rintro s62 fr67 h68 rfl ⟨v64,c65,f70,f71,hv66,hS69⟩
 dsimp only [jnO] at hk26
 unfold qf5 at hk26
 simp only [qh,qf,f71,qm,B0,reduceIte,a7]
 refine qi (v := .agg [v64,.nil,.int .i64 s62.Next]) ((zw (l9 _ _ _ (f8 hS69))).trans rfl) ?_
 simp only [f70,zk,B0,reduceIte,a7]
 refine zb (us:=[v64,.nil,.int .i64 s62.Next]) rfl (cs':=[v64,.nil,
   .int .i64 s62.Next]) hS69 hW rfl (qo (n7 hv66) (qo rfl (qo rfl zl))) (nle rfl) rfl (fun h72 hS73=>?_)
 simp only [qa,q8,B0,reduceIte,a7]
 have he:=qj hk26
 subst he
 refine jk (bb:=b1) (oo:=0) (v := .agg [v64,.nil,.int .i64 s62.Next]) (by simp only [f70,B0,reduceIte,a7]) ((zw (l9 _ _ _ hS73)).trans rfl) ?_
 exact ⟨v64,c65,.nil,[],by first | trivial | rfl,hv66,SlN.nil,((l6 ((l6 (hS73)))) : Sep _ (geL h.length) (c65++([])))⟩
theorem qjq {W:Nat→Bool}{h:Heap} (hW:∀ b,
  (geL h.length) b→W b=true) (brokers_0:Int) (r:Control × Bool) (hF:qah brokers_0=some r) : Ret E W 27 [.int .i64 brokers_0] h
  (fun v h'=>cut h.length h' E.sz false 9 v=some (.tup [.agg [lst qe r.1.Brokers,lst qd r.1.Parts,.int .i64 r.1.Next],.bool r.2])):=by
 refine Ret.of (fn:=x27) rfl (Run.of ?_)
 unfold qah at hF
 have zf0:zj [.int .i64 brokers_0] 0 = .int .i64 brokers_0:=rfl
 generalize zj [.int .i64 brokers_0]=fr0 at zf0 ⊢
 have hS:Sep h (geL h.length) []:=a0t h
 simp only [x27,qh,qf,z5,B0,reduceIte,a7]
 refine zt hS (fun b1 h2 hS3=>?_)
 simp only [qg,qa,q58,qh,qf,zf0,za,B0,reduceIte,a7]
 refine ja rfl (ql qu (ql qu (ql qu zd))) (xk (fun b hb=>decide_eq_true hb) brokers_0 1 6 _ rfl) ?_
 simp only [je,qb,jt,qa,q3e,qz,B0,reduceIte,a7]
 refine qx (t:=(!(z0 brokers_0 1 6))) (fun hc5=>?_) (fun hc5=>?_)
 ·rw [iteT hc5] at hF
  simp only [qh,qf,run_build,evp,B0,reduceIte,a7]
  refine qi (v := .agg [.nil,.nil,.int .i64 0]) rfl ?_
  simp only [zk,B0,reduceIte,a7]
  refine zb (us:=[.nil,.nil,.int .i64 0]) rfl (cs':=[.nil,.nil,.int .i64 0]) hS3 hW rfl rfl (nle rfl) rfl (fun h6 hS7=>?_)
  simp only [qg,qa,q8,B0,reduceIte,a7]
  have he:=qj hF
  subst he
  refine j8 (ql (kn (bb:=b1) (oo:=0) (v := .agg [.nil,.nil,
    .int .i64 0]) (rfl) ((zw (l9 _ _ _ hS7)).trans rfl)) (ql (yl (v := .bool false) (rfl)) zd)) ?_
  exact qcx (ql (qo0 (ql rfl (ql rfl (ql rfl zd)))) (ql rfl zd))
 rw [iteF hc5] at hF
 obtain ⟨v8,hx9,hF10⟩:=qk hF
 simp only [zf,q0z,qh,qf,zf0,qg,za,B0,reduceIte,a7]
 refine wq rfl hS3 (ql qu zd) (qjs (fun b hb=>decide_eq_true hb) brokers_0 v8 hx9) ?_
 rintro _ h19 ⟨v11,c12,v15,c16,rfl,hv13,hv17,hS20⟩
 refine ⟨_,qeu (qo (a0k hv13) (qo (a01 hv17) (qo rfl zl))),hS20,(jg (a1n hv13 (fun _=>rfl)) (jg (a2d hv17 Partition.RO) ye)),
   fun h21 hS22=>?_⟩
 have hS23:Sep h21 (geL h.length) (c12++(c16++([Blk1 b1 [.nil,.nil,.int .i64 0] 29]++([])))):=by simpa only [f6,o8] using hS22
 simp only [zk,B0,reduceIte,a7]
 refine zb (us:=[v11,v15,.int .i64 v8.Next]) rfl (cs':=[v11,v15,
   .int .i64 v8.Next]) (f0 hS23) hW rfl (qo (n7 hv13) (qo (t7 hv17) (qo rfl zl))) (nle rfl) rfl (fun h24 hS25=>?_)
 simp only [qg,qa,q8,B0,reduceIte,a7]
 have he:=qj hF10
 subst he
 refine j8 (ql (kn (bb:=b1) (oo:=0) (v := .agg [v11,v15,
   .int .i64 v8.Next]) (rfl) ((zw (l9 _ _ _ hS25)).trans rfl)) (ql (yl (v := .bool true) (rfl)) zd)) ?_
 exact qcx (ql (qo0 (ql (SlF.cut hv13 (f8 hS25) (fun _ hb=>hb) rfl (fun _=>rfl) (fun _=>rfl)) (ql (SlN.cut hv17 _ (f0 hS25)
   (fun _ hb=>hb) rfl Partition.RO) (ql rfl zd)))) (ql rfl zd))
end Go.Proofs.Ytjloihcijdcpeaa.X
namespace Go.Proofs.Ytjloihcijdcpeaa.X
open Go
theorem qjr {W:Nat→Bool}{h:Heap} (hW:∀ b,
  (geL h.length) b→W b=true) (k:Nat) (v_0:List Int) (v_1:List Int) (r:Bool) (hF:qb1 k v_0 v_1=some r) : Ret E W 4 [lst cU8 v_0,
  lst cU8 v_1] h (fun v h'=>cut h.length h' E.sz false 9 v=some (.bool r)):=by
 refine Ret.of (fn:=x4) rfl (Run.of ?_)
 unfold qb1 at hF
 have zf0:zj [lst cU8 v_0,lst cU8 v_1] 0=lst cU8 v_0:=rfl
 have zf1:zj [lst cU8 v_0,lst cU8 v_1] 1=lst cU8 v_1:=rfl
 generalize zj [lst cU8 v_0,lst cU8 v_1]=fr0 at zf0 zf1 ⊢
 have hS:Sep h (geL h.length) []:=a0t h
 simp only [x4,qh,qf,qg,qa,q0o,zf0,zx,qb,z1,zf1,qv,qal,qc7,qz,B0,reduceIte,a7]
 refine qx (t:=(decide ((1048576:Int)<(d8 .i64 ((b6 v_0:Int)+(b6 v_1:Int)))))) (fun hc1=>?_) (fun hc1=>?_)
 ·rw [iteT hc1] at hF
  simp only [qh,qf,qg,qa,q8,B0,reduceIte,a7]
  have he:=qj hF
  subst he
  simp only [zg,B0,reduceIte,a7]
  exact rfl
 rw [iteF hc1] at hF
 obtain ⟨v2,hx3,hF4⟩:=qk hF
 simp only [zf,q6r,qh,qf,zf0,qg,za,B0,reduceIte,a7]
 refine wq rfl hS (ql zn zd) (qid (fun b hb=>decide_eq_true hb) k v_0 v2 hx3) ?_
 rintro _ h17 ⟨v5,c6,v9,c10,v13,c14,rfl,hv7,hv11,hv15,hS18⟩
 refine ⟨_,u6 (qo (uj (qo (a0k hv7) (qo (a01 hv11) (qo rfl zl)))) (qo (uj (qo rfl (qo rfl (qo rfl (qo rfl (qo rfl
   (qo (a0k hv15) zl))))))) zl)),hS18,(jg (a1n hv7 (fun _=>rfl)) (jg (a2d hv11 Partition.RO) (jg (a1n hv15 (fun _=>rfl)) ye))),
   fun h19 hS20=>?_⟩
 have hS21:Sep h19 (geL h.length) (c6++(c10++(c14++([])))):=by simpa only [f6,o8] using hS20
 simp only [qg,yi,qb,y6,y8,z5,B0,reduceIte,a7]
 refine zt hS21 (fun b22 h23 hS24=>?_)
 simp only [z5,B0,reduceIte,a7]
 refine zt hS24 (fun b26 h27 hS28=>?_)
 simp only [zk,B0,reduceIte,a7]
 refine zb (us:=[v5,v9,.int .i64 v2.1.Next]) rfl (cs':=[v5,v9,
   .int .i64 v2.1.Next]) (f8 hS28) hW rfl (qo (n7 hv7) (qo (t7 hv11) (qo rfl zl))) (nle rfl) rfl (fun h30 hS31=>?_)
 simp only [zk,B0,reduceIte,a7]
 refine zb (us:=[.int .i64 v2.2.Kind,.int .i64 v2.2.Broker,.int .i64 v2.2.Epoch,.int .i64 v2.2.Part,.int .i64 v2.2.Stamp,v13]) rfl (cs':=[.int .i64 v2.2.Kind,
   .int .i64 v2.2.Broker,.int .i64 v2.2.Epoch,.int .i64 v2.2.Part,.int .i64 v2.2.Stamp,
   v13]) (f8 hS31) hW rfl (qo rfl (qo rfl (qo rfl (qo rfl (qo rfl (qo (n7 hv15) zl)))))) (nle rfl) rfl (fun h32 hS33=>?_)
 simp only [qa,B0,reduceIte,a7]
 refine zq (f8 hS33) hW (by simp only [B0,reduceIte,a7]) (fun h34 hS35=>?_)
 refine zq hS35 hW (by simp only [B0,reduceIte,a7]) (fun h36 hS37=>?_)
 simp only [zp,q3t,qh,qf,qm,B0,reduceIte,a7]
 refine qi (v := .agg [v5,v9,.int .i64 v2.1.Next]) rfl ?_
 simp only [qm,B0,reduceIte,a7]
 refine qi (v := .agg [.int .i64 v2.2.Kind,.int .i64 v2.2.Broker,.int .i64 v2.2.Epoch,.int .i64 v2.2.Part,.int .i64 v2.2.Stamp,v13]) rfl ?_
 obtain ⟨v38,hx39,hF40⟩:=qk hF4
 simp only [za,B0,reduceIte,a7]
 refine wq rfl hS37 (ql (z4 (ql (a0g hv7 hS37 rfl (fun _=>rfl) (fun _=>rfl)) (ql (a09 hv11 _ (f8 hS37) rfl Partition.RO)
   (ql qu zd)))) (ql (z4 (ql qu (ql qu (ql qu (ql qu (ql qu (ql (a0g hv15 (f0 hS37) rfl
   (fun _=>rfl) (fun _=>rfl)) zd))))))) zd)) (qg8 (fun b hb=>decide_eq_true hb) v2.1 v2.2 v38 hx39) ?_
 rintro _ h49 ⟨v41,c42,v45,c46,rfl,hv43,hv47,hS50⟩
 refine ⟨_,u6 (qo (uj (qo (a0k hv43) (qo (a01 hv47) (qo rfl zl)))) (qo rfl (qo rfl zl))),hS50,
   (jg (a1n hv43 (fun _=>rfl)) (jg (a2d hv47 Partition.RO) ye)),fun h51 hS52=>?_⟩
 have hS53:Sep h51 (geL h.length) (c42++(c46++(c6++(c10++(c14++([])))))):=by simpa only [f6,o8] using hS52
 simp only [qg,yi,qb,y6,y8,qgx,z5,B0,reduceIte,a7]
 refine zt hS53 (fun b54 h55 hS56=>?_)
 simp only [zk,B0,reduceIte,a7]
 refine zb (us:=[v41,v45,.int .i64 v38.1.Next]) rfl (cs':=[v41,v45,
   .int .i64 v38.1.Next]) hS56 hW rfl (qo (n7 hv43) (qo (t7 hv47) (qo rfl zl))) (nle rfl) rfl (fun h58 hS59=>?_)
 simp only [qg,qa,B0,reduceIte,a7]
 refine zq hS59 hW (by simp only [B0,reduceIte,a7]) (fun h60 hS61=>?_)
 simp only [zp,q64,qh,qf,qm,B0,reduceIte,a7]
 refine qi (v := .agg [v5,v9,.int .i64 v2.1.Next]) rfl ?_
 simp only [qm,B0,reduceIte,a7]
 refine qi (v := .agg [.int .i64 v2.2.Kind,.int .i64 v2.2.Broker,.int .i64 v2.2.Epoch,.int .i64 v2.2.Part,.int .i64 v2.2.Stamp,v13]) rfl ?_
 obtain ⟨v62,hx63,hF64⟩:=qk hF40
 simp only [za,B0,reduceIte,a7]
 refine wq rfl hS61 (ql (z4 (ql (a0g hv7 (f0 hS61) rfl (fun _=>rfl) (fun _=>rfl)) (ql (a09 hv11 _ (i5 hS61) rfl Partition.RO)
   (ql qu zd)))) (ql (z4 (ql qu (ql qu (ql qu (ql qu (ql qu (ql (a0g hv15 (o6 hS61) rfl
   (fun _=>rfl) (fun _=>rfl)) zd))))))) zd)) (qec (fun b hb=>decide_eq_true hb) v2.1 v2.2 v62 hx63) ?_
 rintro _ h73 ⟨v65,c66,v69,c70,rfl,hv67,hv71,hS74⟩
 refine ⟨_,u6 (qo (uj (qo (a0k hv67) (qo (a01 hv71) (qo rfl zl)))) (qo rfl (qo rfl zl))),hS74,
   (jg (a1n hv67 (fun _=>rfl)) (jg (a2d hv71 Partition.RO) ye)),fun h75 hS76=>?_⟩
 have hS77:Sep h75 (geL h.length) (c66++(c70++(c42++(c46++(c6++(c10++(c14++([])))))))):=by simpa only [f6,o8] using hS76
 simp only [qg,yi,qb,y6,y8,qgx,z5,B0,reduceIte,a7]
 refine zt hS77 (fun b78 h79 hS80=>?_)
 simp only [zk,B0,reduceIte,a7]
 refine zb (us:=[v65,v69,.int .i64 v62.1.Next]) rfl (cs':=[v65,v69,
   .int .i64 v62.1.Next]) hS80 hW rfl (qo (n7 hv67) (qo (t7 hv71) (qo rfl zl))) (nle rfl) rfl (fun h82 hS83=>?_)
 simp only [qg,qa,B0,reduceIte,a7]
 refine zq hS83 hW (by simp only [B0,reduceIte,a7]) (fun h84 hS85=>?_)
 simp only [zp,q2n,qh,ji,jm,qt,qts,qkp,B0,reduceIte,a7]
 refine qf8 4 (fun fr' h'=>Sep h' (geL h.length) (c6++(c10++(c14++(c42++(c46++(c66++(c70++([]))))))))∧fr' 72 = .bool ((!(v38.2.2 == v62.2.2))||(decide
   (v38.2.1≠v62.2.1)))∧fr' 1=lst cU8 v_1∧fr' 5 = .ref [v5,v9,.int .i64 v2.1.Next] 0∧fr' 6 = .ref [.int .i64 v2.2.Kind,.int .i64 v2.2.Broker,.int .i64 v2.2.Epoch,
   .int .i64 v2.2.Part,.int .i64 v2.2.Stamp,v13] 0∧fr' 7 = .ref [v41,v45,.int .i64 v38.1.Next] 0∧fr' 8 = .int .i64 v38.2.1∧fr' 9 = .bool v38.2.2∧fr' 10 = .ref [v65,
   v69,.int .i64 v62.1.Next] 0) rfl (fun Q86 hN87=>?_) ?_
 ·simp only [d7,e9]
  simp only [zo (g:=68),B0,reduceIte,a7]
  refine yu (t:=(!(v38.2.2 == v62.2.2))) (fun hg88=>?_) (fun hg88=>?_)
  ·simp only [hg88,zo (g:=68),wj,yd,qt,zh,zm,qn,B0,reduceIte,a7]
   exact hN87 _ _ ⟨(r5 (r5 (r5 (i5 (i5 (f8 (f8 hS85))))))),by rw [orT hg88]; simp only [B0,reduceIte,a7],zf1,rfl,rfl,rfl,rfl,rfl,
     rfl⟩
  ·simp only [hg88,zo (g:=68),zz,jm,qt,wt,wm,yd,zi,zm,qn,B0,reduceIte,a7]
   exact hN87 _ _ ⟨(r5 (r5 (r5 (i5 (i5 (f8 (f8 hS85))))))),by rw [orF hg88]; simp only [B0,reduceIte,a7],zf1,rfl,rfl,rfl,rfl,rfl,
     rfl⟩
 rintro fr89 h98 ⟨hS99,f90,f91,f92,f93,f94,f95,f96,f97⟩
 simp only [b7,e8]
 simp only [f90,jm,qt,B0,reduceIte,a7]
 simp only [zo (g:=73),B0,reduceIte,a7]
 refine yu (t:=((!(v38.2.2 == v62.2.2))||(decide (v38.2.1≠v62.2.1)))) (fun hg100=>?_) (fun hg100=>?_)
 ·rw [iteT hg100] at hF64
  simp only [hg100,zo (g:=73),wj,yd,qt,zh,jm,zo (g:=79),zm,qz,qhh,qh,qf,qg,
    qa,q8,B0,reduceIte,a7]
  have he:=qj hF64
  subst he
  simp only [zg,B0,reduceIte,a7]
  exact rfl
 rw [iteF hg100] at hF64
 simp only [hg100,zo (g:=73),zz,f94,z2,B0,reduceIte,a7]
 refine zc (v := .agg [v41,v45,.int .i64 v38.1.Next]) rfl ?_
 simp only [hg100,zo (g:=73),zz,f97,z2,B0,reduceIte,a7]
 refine zc (v := .agg [v65,v69,.int .i64 v62.1.Next]) rfl ?_
 obtain ⟨v101,hx102,hF103⟩:=qk hF64
 simp only [hg100,zo (g:=73),zz,xx,B0,reduceIte,a7]
 refine qga rfl (ql (z4 (ql (a0g hv43 (i5 hS99) rfl (fun _=>rfl) (fun _=>rfl)) (ql (a09 hv47 _ (o6 hS99) rfl Partition.RO)
   (ql qu zd)))) (ql (z4 (ql (a0g hv67 (s7 hS99) rfl (fun _=>rfl) (fun _=>rfl)) (ql (a09 hv71 _ (r5 hS99) rfl Partition.RO)
   (ql qu zd)))) zd)) (qcz (fun b hb=>decide_eq_true hb) v38.1 v62.1 v101 hx102) ?_
 simp only [hg100,zo (g:=73),zz,qhi,qt,jt,yd,zi,jm,B0,reduceIte,a7]
 simp only [zo (g:=79),B0,reduceIte,a7]
 refine yu (t:=(!v101)) (fun hg104=>?_) (fun hg104=>?_)
 ·rw [iteT hg104] at hF103
  simp only [hg104,zo (g:=79),wj,yd,qt,zh,zm,qz,qhh,qh,qf,qg,qa,q8,B0,
    reduceIte,a7]
  have he:=qj hF103
  subst he
  simp only [zg,B0,reduceIte,a7]
  exact rfl
 rw [iteF hg104] at hF103
 simp only [hg104,zo (g:=79),zz,f92,z2,B0,reduceIte,a7]
 refine zc (v := .agg [v5,v9,.int .i64 v2.1.Next]) rfl ?_
 obtain ⟨v105,hx106,hF107⟩:=qk hF103
 simp only [hg104,zo (g:=79),zz,qa1,B0,reduceIte,a7]
 refine q8y rfl (ql (z4 (ql (a0g hv7 hS99 rfl (fun _=>rfl) (fun _=>rfl)) (ql (a09 hv11 _ (f8 hS99) rfl Partition.RO)
   (ql qu zd)))) zd) (qgd (fun b hb=>decide_eq_true hb) v2.1 v105 hx106) ?_
 simp only [hg104,zo (g:=79),zz,f92,qbc,qci,B0,reduceIte,a7]
 refine zc (v := .agg [v5,v9,.int .i64 v2.1.Next]) rfl ?_
 obtain ⟨v108,hx109,hF110⟩:=qk hF107
 simp only [hg104,zo (g:=79),zz,xx,B0,reduceIte,a7]
 refine qga rfl (ql (z4 (ql (a0g hv7 hS99 rfl (fun _=>rfl) (fun _=>rfl)) (ql (a09 hv11 _ (f8 hS99) rfl Partition.RO)
   (ql qu zd)))) zd) (xl (fun b hb=>decide_eq_true hb) v2.1 v108 hx109) ?_
 simp only [hg104,zo (g:=79),zz,qts,qt,qkp,yd,zi,zm,qz,B0,reduceIte,a7]
 refine qx (t:=(!(v105 == v108))) (fun hc111=>?_) (fun hc111=>?_)
 ·rw [iteT hc111] at hF110
  simp only [qh,qf,qg,qa,q8,B0,reduceIte,a7]
  have he:=qj hF110
  subst he
  simp only [zg,B0,reduceIte,a7]
  exact rfl
 rw [iteF hc111] at hF110
 simp only [zf,q4x,qh,qf,f96,qg,qa,q3x,qz,B0,reduceIte,a7]
 obtain ⟨oc112,hX113,hk114⟩:=jo hF110
 refine ue (t:=v38.2.2) (fun fr' h'=>∃ s,oc112 = .nxt s∧fr' 1=lst cU8 v_1∧Sep h' (geL h.length) ([])) (fun Q115 hN116 hR117 hE118=>⟨fun hc119=>?_,
   fun hc119=>?_⟩) ?_
 ·rw [iteT hc119] at hX113
  simp only [q7h,qh,qf,f94,qm,B0,reduceIte,a7]
  refine qi (v := .agg [v41,v45,.int .i64 v38.1.Next]) rfl ?_
  obtain ⟨v120,hx121,hF122⟩:=qk hX113
  simp only [za,B0,reduceIte,a7]
  refine ja rfl (ql (z4 (ql (a0g hv43 (i5 hS99) rfl (fun _=>rfl) (fun _=>rfl)) (ql (a09 hv47 _ (o6 hS99) rfl Partition.RO)
    (ql qu zd)))) zd) (qgd (fun b hb=>decide_eq_true hb) v38.1 v120 hx121) ?_
  simp only [je,qb,jt,qg,B0,reduceIte,a7]
  obtain ⟨v126,hx127,hF128⟩:=qk hF122
  refine zr 9 (fun fr' h'=>Sep h' (geL h.length) (c6++(c10++(c14++(c42++(c46++([]))))))∧fr' 99 = .bool v126∧fr' 1=lst cU8 v_1∧fr' 5 = .ref [v5,v9,
    .int .i64 v2.1.Next] 0∧fr' 6 = .ref [.int .i64 v2.2.Kind,.int .i64 v2.2.Broker,.int .i64 v2.2.Epoch,.int .i64 v2.2.Part,.int .i64 v2.2.Stamp,
    v13] 0∧fr' 7 = .ref [v41,v45,.int .i64 v38.1.Next] 0∧fr' 8 = .int .i64 v38.2.1) (fun Q123 hN124=>?_) ?_
  ·simp only [d7,e9]
   simp only [qc (g:=90),B0,reduceIte,a7]
   refine qy (t:=(!v120)) (fun hg125=>?_) (fun hg125=>?_)
   ·rw [iteT hg125] at hx127
    simp only [hg125,qc (g:=90),zv,qc (g:=93),u4,qr,qb,zh,qa,qn,B0,reduceIte,a7]
    have e129:=qj hx127
    exact hN124 _ _ ⟨(o6 (o6 (o6 (o6 (o6 (l6 (s7 (l6 (s7 hS99))))))))),by rw [←e129]; simp only [B0,reduceIte,a7],f91,f92,
      f93,f94,f95⟩
   ·rw [iteF hg125] at hx127
    simp only [hg125,qc (g:=90),qq,f95,qg,qv,qb,wm,B0,reduceIte,a7]
    obtain ⟨v133,hx134,hF135⟩:=qk hx127
    refine zr 5 (fun fr' h'=>Sep h' (geL h.length) (c6++(c10++(c14++(c42++(c46++([]))))))∧fr' 98 = .bool v133∧fr' 1=lst cU8 v_1∧fr' 5 = .ref [v5,v9,
      .int .i64 v2.1.Next] 0∧fr' 6 = .ref [.int .i64 v2.2.Kind,.int .i64 v2.2.Broker,.int .i64 v2.2.Epoch,.int .i64 v2.2.Part,.int .i64 v2.2.Stamp,
      v13] 0∧fr' 7 = .ref [v41,v45,.int .i64 v38.1.Next] 0∧fr' 8 = .int .i64 v38.2.1∧fr' 90 = .bool (!v120)) (fun Q130 hN131=>?_) ?_
    ·simp only [d7,e9]
     simp only [qc (g:=93),B0,reduceIte,a7]
     refine qy (t:=(decide (v38.2.1≠0))) (fun hg132=>?_) (fun hg132=>?_)
     ·rw [iteT hg132] at hx134
      simp only [hg132,qc (g:=93),qw,f94,qm,B0,reduceIte,a7]
      refine qi (v := .agg [v41,v45,.int .i64 v38.1.Next]) rfl ?_
      simp only [hg132,qc (g:=93),qw,f92,qm,B0,reduceIte,a7]
      refine qi (v := .agg [v5,v9,.int .i64 v2.1.Next]) rfl ?_
      obtain ⟨v136,hx137,hF138⟩:=qk hx134
      simp only [hg132,qc (g:=93),qw,za,B0,reduceIte,a7]
      refine ja rfl (ql (z4 (ql (a0g hv43 (i5 hS99) rfl (fun _=>rfl) (fun _=>rfl)) (ql (a09 hv47 _ (o6 hS99) rfl Partition.RO)
        (ql qu zd)))) (ql (z4 (ql (a0g hv7 hS99 rfl (fun _=>rfl) (fun _=>rfl)) (ql (a09 hv11 _ (f8 hS99) rfl Partition.RO)
        (ql qu zd)))) zd)) (qcz (fun b hb=>decide_eq_true hb) v38.1 v2.1 v136 hx137) ?_
      simp only [hg132,qc (g:=93),qw,je,qb,jt,hg125,qc (g:=90),qq,qr,zh,qa,qn,B0,
        reduceIte,a7]
      have e139:=qj hF138
      exact hN131 _ _ ⟨(o6 (o6 (o6 (o6 (o6 (l6 (s7 (l6 (s7 hS99))))))))),by rw [←e139]; simp only [B0,reduceIte,a7],f91,
        f92,f93,f94,f95,by simp only [hg125,B0,reduceIte,a7]⟩
     ·rw [iteF hg132] at hx134
      simp only [hg132,qc (g:=93),zy,hg125,qc (g:=90),qq,qr,qb,zi,qa,qn,B0,reduceIte,
        a7]
      have e140:=qj hx134
      exact hN131 _ _ ⟨(o6 (o6 (o6 (o6 (o6 (l6 (s7 (l6 (s7 hS99))))))))),by rw [←e140]; simp only [B0,reduceIte,a7],f91,
        f92,f93,f94,f95,by simp only [hg125,B0,reduceIte,a7]⟩
    rintro fr141 h149 ⟨hS150,f142,f143,f144,f145,f146,f147,f148⟩
    simp only [b7,e8]
    simp only [f148,hg125,qr,qb,zi,f142,qa,qn,B0,reduceIte,a7]
    have e151:=qj hF135
    exact hN124 _ _ ⟨(o6 (o6 (o6 (o6 (o6 hS150))))),by rw [←e151]; simp only [B0,reduceIte,a7],f143,f144,f145,f146,f147⟩
  rintro fr152 h159 ⟨hS160,f153,f154,f155,f156,f157,f158⟩
  simp only [b7,e8]
  simp only [f153,qg,B0,reduceIte,a7]
  refine zr 8 (fun fr' h'=>Sep h' (geL h.length) (c6++(c10++(c14++(c42++(c46++([]))))))∧fr' 108 = .bool (v126||(decide ((b6 v38.1.Parts:Int) <
    (b6 v2.1.Parts:Int))))∧fr' 1=lst cU8 v_1∧fr' 5 = .ref [v5,v9,.int .i64 v2.1.Next] 0∧fr' 6 = .ref [.int .i64 v2.2.Kind,.int .i64 v2.2.Broker,
    .int .i64 v2.2.Epoch,.int .i64 v2.2.Part,.int .i64 v2.2.Stamp,v13] 0∧fr' 7 = .ref [v41,v45,
    .int .i64 v38.1.Next] 0∧fr' 8 = .int .i64 v38.2.1) (fun Q161 hN162=>?_) ?_
  ·simp only [d7,e9]
   simp only [qc (g:=100),B0,reduceIte,a7]
   refine qy (t:=v126) (fun hg163=>?_) (fun hg163=>?_)
   ·simp only [hg163,qc (g:=100),zv,qr,qb,zh,qa,qn,B0,reduceIte,a7]
    exact hN162 _ _ ⟨(o6 (o6 (o6 (o6 (o6 hS160))))),by rw [orT hg163]; simp only [B0,reduceIte,a7],f154,f155,f156,f157,f158⟩
   ·simp only [hg163,qc (g:=100),qq,f157,qp,qb,a8,a9,b4,qs,qm,B0,reduceIte,a7]
    refine qi (v:=v45) rfl ?_
    simp only [hg163,qc (g:=100),qq,zx,qb,a2h hv47,f155,qp,a8,a9,b4,qs,qm,B0,
      reduceIte,a7]
    refine qi (v:=v9) rfl ?_
    simp only [hg163,qc (g:=100),qq,zx,qb,a2h hv11,qv,qfi,qr,zi,qa,qn,B0,reduceIte,a7]
    exact hN162 _ _ ⟨(o6 (o6 (o6 (o6 (o6 hS160))))),by rw [orF hg163]; simp only [B0,reduceIte,a7],f154,f155,f156,f157,f158⟩
  rintro fr164 h171 ⟨hS172,f165,f166,f167,f168,f169,f170⟩
  simp only [b7,e8]
  simp only [qa,f165,qz,B0,reduceIte,a7]
  refine qx (t:=(v126||(decide ((b6 v38.1.Parts:Int)<(b6 v2.1.Parts:Int))))) (fun hc173=>?_) (fun hc173=>?_)
  ·rw [iteT hc173] at hF128
   simp only [qh,qf,qg,qa,q8,B0,reduceIte,a7]
   have e174:=qj hF128
   subst e174
   have hk114':=hk114
   dsimp only [jnO] at hk114'
   apply hR117
   have he:=qj hk114'
   subst he
   simp only [zg,B0,reduceIte,a7]
   exact rfl
  rw [iteF hc173] at hF128
  simp only [zf,q1s,qh,qf,f167,qp,qb,a8,a9,b4,qs,qm,B0,reduceIte,a7]
  refine qi (v:=v9) rfl ?_
  simp only [zx,qb,a2h hv11,qg,qa,B0,reduceIte,a7]
  obtain ⟨oc189,hX191,hk192⟩:=jo hF128
  simp only [zas]
  refine qa8 (σ:=(List Partition) × (List Partition)) (fun i187 s444=>u9 i187 s444.1 s444.2) (fun s fr' h'=>∃ c182 c185,
    fr' 1=lst cU8 v_1∧fr' 5 = .ref [v5,v9,.int .i64 v2.1.Next] 0∧fr' 6 = .ref [.int .i64 v2.2.Kind,.int .i64 v2.2.Broker,.int .i64 v2.2.Epoch,.int .i64 v2.2.Part,
    .int .i64 v2.2.Stamp,v13] 0∧fr' 7 = .ref [v41,v45,
    .int .i64 v38.1.Next] 0∧fr' 8 = .int .i64 v38.2.1∧fr' 110=v9∧SlN Partition.R 5 39 v9 s.1 c182∧SlN Partition.R 5 39 v45 s.2 c185∧Sep h' (geL h.length) (c6 ++
    (c182++(c14++(c42++(c185++([]))))))) hX191 ⟨c10,c46,f166,f167,f168,f169,f170,rfl,hv11,hv47,
    (o6 (o6 (o6 (o6 (o6 hS172)))))⟩ (by simp only [B0,reduceIte,a7]) (by simp only [B0,reduceIte,
    a7]) (fun _ _ _ h=>h) rfl rfl (fun _ _ _ _ h=>h) (fun _ _ _ _ h=>h) (fun _ _ _ _ h=>h) (by decide) ?_ ?_
  ·rintro i187 ⟨s181,s184⟩ fr201 h202 hx210 ⟨c182,c185,f204,f205,f206,f207,f208,f209,hv183,hv186,hS203⟩ f211 f212 oc190 hF193 hr194 Q195 hN196 hB200 hK197 hR198 hE199
   dsimp only at *
   unfold u9 at hF193
   obtain ⟨x213,hx214,hF215⟩:=qk hF193
   simp only [q9m,qh,qf,f211,qg,f209,jf,B0,reduceIte,a7]
   obtain ⟨b216,hb217⟩:=a1y hv183 (kq hx214)
   refine qi (SlN.ia hv183 hb217 hx214) ?_
   obtain ⟨c218,cs219,os220,hv221,hR222,hS223⟩:=a12 (a11 hv183 hb217 Partition.RO.len) hx214 jl Partition.RO.len (f8 hS203)
   obtain ⟨v225,c226,v229,c230,hv227,hv231,rfl,rfl⟩:=hR222
   have hS224:=a13 hS223
   simp only [qm,B0,reduceIte,a7]
   refine qi (v := .agg [v225,v229,.int .i64 x213.Leader,.int .i64 x213.Epoch,.int .i64 x213.Stamp]) ((SlG.lds (o:=0) hv221 rfl hx214 hS224 (nle rfl)).trans rfl) ?_
   simp only [z5,B0,reduceIte,a7]
   refine zt hS224 (fun b233 h234 hS235=>?_)
   simp only [qg,zk,B0,reduceIte,a7]
   refine zb (us:=[v225,v229,.int .i64 x213.Leader,.int .i64 x213.Epoch,.int .i64 x213.Stamp]) rfl (cs':=[v225,v229,.int .i64 x213.Leader,
     .int .i64 x213.Epoch,.int .i64 x213.Stamp]) hS235 hW rfl (qo (n7 hv227) (qo (n7 hv231) (qo rfl (qo rfl (qo rfl zl))))) (nle rfl) rfl
     (fun h237 hS238=>?_)
   simp only [qa,B0,reduceIte,a7]
   refine zq hS238 hW (by simp only [B0,reduceIte,a7]) (fun h239 hS240=>?_)
   simp only [zp,q9h,qh,qf,f207,qp,qb,a8,a9,b4,qs,qm,B0,reduceIte,a7]
   refine qi (v:=v45) rfl ?_
   obtain ⟨x241,hx242,hF243⟩:=qk hF215
   simp only [qg,jf,B0,reduceIte,a7]
   obtain ⟨b244,hb245⟩:=a1y hv186 (kq hx242)
   refine qi (SlN.ia hv186 hb245 hx242) ?_
   obtain ⟨c246,cs247,os248,hv249,hR250,hS251⟩:=a12 (a11 hv186 hb245 Partition.RO.len) hx242 jl Partition.RO.len (r5 hS240)
   obtain ⟨v253,c254,v257,c258,hv255,hv259,rfl,rfl⟩:=hR250
   have hS252:=a13 hS251
   simp only [qm,B0,reduceIte,a7]
   refine qi (v := .agg [v253,v257,.int .i64 x241.Leader,.int .i64 x241.Epoch,.int .i64 x241.Stamp]) ((SlG.lds (o:=0) hv249 rfl hx242 hS252 (nle rfl)).trans rfl) ?_
   simp only [z5,B0,reduceIte,a7]
   refine zt hS252 (fun b261 h262 hS263=>?_)
   simp only [zk,B0,reduceIte,a7]
   refine zb (us:=[v253,v257,.int .i64 x241.Leader,.int .i64 x241.Epoch,.int .i64 x241.Stamp]) rfl (cs':=[v253,v257,.int .i64 x241.Leader,
     .int .i64 x241.Epoch,.int .i64 x241.Stamp]) hS263 hW rfl (qo (n7 hv255) (qo (n7 hv259) (qo rfl (qo rfl (qo rfl zl))))) (nle rfl) rfl
     (fun h265 hS266=>?_)
   simp only [qa,B0,reduceIte,a7]
   refine zq hS266 hW (by simp only [B0,reduceIte,a7]) (fun h267 hS268=>?_)
   simp only [zp,q9g,qh,qf,qp,qb,a8,a9,b4,qs,qm,B0,reduceIte,a7]
   refine qi (v := .int .i64 x241.Epoch) rfl ?_
   simp only [qp,qb,a8,a9,b4,qs,qm,B0,reduceIte,a7]
   refine qi (v := .int .i64 x213.Epoch) rfl ?_
   simp only [qv,qb,qfi,qg,B0,reduceIte,a7]
   refine zr 6 (fun fr' h'=>Sep h' (geL h.length) (c6++(c218++(c14++(c42++(c246++(c226++(c230++(c254++(c258++([]))))))))))∧fr' 133 = .bool ((decide
     (x241.Epoch<x213.Epoch))||(decide (x241.Stamp<x213.Stamp)))∧fr' 1=lst cU8 v_1∧fr' 5 = .ref [v5,v9,
     .int .i64 v2.1.Next] 0∧fr' 6 = .ref [.int .i64 v2.2.Kind,.int .i64 v2.2.Broker,.int .i64 v2.2.Epoch,.int .i64 v2.2.Part,.int .i64 v2.2.Stamp,
     v13] 0∧fr' 7 = .ref [v41,v45,.int .i64 v38.1.Next] 0∧fr' 8 = .int .i64 v38.2.1∧fr' 14 = .ref [v225,v229,.int .i64 x213.Leader,.int .i64 x213.Epoch,
     .int .i64 x213.Stamp] 0∧fr' 15 = .ref [v253,v257,.int .i64 x241.Leader,.int .i64 x241.Epoch,
     .int .i64 x241.Stamp] 0∧fr' 110=v9∧fr' 111 = .int .i64 (b6 v2.1.Parts:Int)∧fr' 112 = .int .i64 (i187:Int)) (fun Q269 hN270=>?_) ?_
   ·simp only [d7,e9]
    simp only [qc (g:=127),B0,reduceIte,a7]
    refine qy (t:=(decide (x241.Epoch<x213.Epoch))) (fun hg271=>?_) (fun hg271=>?_)
    ·simp only [hg271,qc (g:=127),zv,qr,qb,zh,qa,qn,B0,reduceIte,a7]
     exact hN270 _ _ ⟨(r8 (Sep.m7 (r8 (r8 (o6 (s7 (s7 (f0 (f0 hS268))))))))),by rw [orT hg271]; simp only [B0,reduceIte,a7],
       f204,f205,f206,f207,f208,rfl,rfl,f209,f212,f211⟩
    ·simp only [hg271,qc (g:=127),qq,qp,qb,a8,a9,b4,qs,qm,B0,reduceIte,a7]
     refine qi (v := .int .i64 x241.Stamp) rfl ?_
     simp only [hg271,qc (g:=127),qq,qp,qb,a8,a9,b4,qs,qm,B0,reduceIte,a7]
     refine qi (v := .int .i64 x213.Stamp) rfl ?_
     simp only [hg271,qc (g:=127),qq,qv,qb,qfi,qr,zi,qa,qn,B0,reduceIte,a7]
     exact hN270 _ _ ⟨(r8 (Sep.m7 (r8 (r8 (o6 (s7 (s7 (f0 (f0 hS268))))))))),by rw [orF hg271]; simp only [B0,reduceIte,a7],
       f204,f205,f206,f207,f208,rfl,rfl,f209,f212,f211⟩
   rintro fr272 h284 ⟨hS285,f273,f274,f275,f276,f277,f278,f279,f280,f281,f282,f283⟩
   simp only [b7,e8]
   simp only [f273,qg,B0,reduceIte,a7]
   obtain ⟨v289,hx290,hF291⟩:=qk hF243
   refine zr 7 (fun fr' h'=>Sep h' (geL h.length) (c6++(c218++(c14++(c42++(c246++(c226++(c230++(c254++(c258 ++
     ([]))))))))))∧fr' 141 = .bool v289∧fr' 1=lst cU8 v_1∧fr' 5 = .ref [v5,v9,.int .i64 v2.1.Next] 0∧fr' 6 = .ref [.int .i64 v2.2.Kind,.int .i64 v2.2.Broker,
     .int .i64 v2.2.Epoch,.int .i64 v2.2.Part,.int .i64 v2.2.Stamp,v13] 0∧fr' 7 = .ref [v41,v45,
     .int .i64 v38.1.Next] 0∧fr' 8 = .int .i64 v38.2.1∧fr' 14 = .ref [v225,v229,.int .i64 x213.Leader,.int .i64 x213.Epoch,
     .int .i64 x213.Stamp] 0∧fr' 15 = .ref [v253,v257,.int .i64 x241.Leader,.int .i64 x241.Epoch,
     .int .i64 x241.Stamp] 0∧fr' 110=v9∧fr' 111 = .int .i64 (b6 v2.1.Parts:Int)∧fr' 112 = .int .i64 (i187:Int)) (fun Q286 hN287=>?_) ?_
   ·simp only [d7,e9]
    simp only [qc (g:=134),B0,reduceIte,a7]
    refine qy (t:=((decide (x241.Epoch<x213.Epoch))||(decide (x241.Stamp<x213.Stamp)))) (fun hg288=>?_) (fun hg288=>?_)
    ·rw [iteT hg288] at hx290
     simp only [hg288,qc (g:=134),zv,qr,qb,zh,qa,qn,B0,reduceIte,a7]
     have e292:=qj hx290
     exact hN287 _ _ ⟨(r8 (r8 (r8 (r8 (r8 (r8 (r8 (r8 (r8 hS285))))))))),by rw [←e292]; simp only [B0,reduceIte,a7],f274,
       f275,f276,f277,f278,f279,f280,f281,f282,f283⟩
    ·rw [iteF hg288] at hx290
     simp only [hg288,qc (g:=134),qq,f280,qp,qb,a8,a9,b4,qs,qm,B0,reduceIte,a7]
     refine qi (v:=v253) rfl ?_
     simp only [hg288,qc (g:=134),qq,f279,qp,qb,a8,a9,b4,qs,qm,B0,reduceIte,a7]
     refine qi (v:=v225) rfl ?_
     obtain ⟨v293,hx294,hF295⟩:=qk hx290
     simp only [hg288,qc (g:=134),qq,za,B0,reduceIte,a7]
     refine ja rfl (ql (a0g hv255 (Sep.m7 hS285) rfl (fun _=>rfl) (fun _=>rfl)) (ql (a0g hv227 (s7 hS285) rfl (fun _=>rfl)
       (fun _=>rfl)) zd)) (wx (fun b hb=>decide_eq_true hb) x241.Homes x213.Homes v293 hx294) ?_
     simp only [hg288,qc (g:=134),qq,je,qb,jt,qr,zi,qa,qn,B0,reduceIte,a7]
     have e296:=qj hF295
     exact hN287 _ _ ⟨(r8 (r8 (r8 (r8 (r8 (r8 (r8 (r8 (r8 hS285))))))))),by rw [←e296]; simp only [B0,reduceIte,a7],f274,
       f275,f276,f277,f278,f279,f280,f281,f282,f283⟩
   rintro fr297 h309 ⟨hS310,f298,f299,f300,f301,f302,f303,f304,f305,f306,f307,f308⟩
   simp only [b7,e8]
   simp only [qa,f298,qz,B0,reduceIte,a7]
   refine qx (t:=v289) (fun hc311=>?_) (fun hc311=>?_)
   ·rw [iteT hc311] at hF291
    simp only [qh,qf,qg,qa,q8,B0,reduceIte,a7]
    have e312:=qj hF291
    subst e312
    have ho313:=hr194 _ rfl
    have hk314:=hk192
    rw [ho313] at hk314
    dsimp only [jnO] at hk314
    apply hR198
    have e315:=qj hk314
    subst e315
    have hk114':=hk114
    dsimp only [jnO] at hk114'
    apply hR117
    have he:=qj hk114'
    subst he
    simp only [zg,B0,reduceIte,a7]
    exact rfl
   rw [iteF hc311] at hF291
   simp only [zf,q91,qh,qf,f305,qp,qb,a8,a9,b4,qs,qm,B0,reduceIte,a7]
   refine qi (v := .int .i64 x241.Leader) rfl ?_
   simp only [qv,qb,qcg,qg,B0,reduceIte,a7]
   refine zr 6 (fun fr' h'=>Sep h' (geL h.length) (c6++(c218++(c14++(c42++(c246++(c226++(c230++(c254++(c258++([]))))))))))∧fr' 151 = .bool ((decide
     ((0:Int)≤x241.Leader))&&(decide (x241.Leader≠x213.Leader)))∧fr' 1=lst cU8 v_1∧fr' 5 = .ref [v5,v9,
     .int .i64 v2.1.Next] 0∧fr' 6 = .ref [.int .i64 v2.2.Kind,.int .i64 v2.2.Broker,.int .i64 v2.2.Epoch,.int .i64 v2.2.Part,.int .i64 v2.2.Stamp,
     v13] 0∧fr' 7 = .ref [v41,v45,.int .i64 v38.1.Next] 0∧fr' 8 = .int .i64 v38.2.1∧fr' 14 = .ref [v225,v229,.int .i64 x213.Leader,.int .i64 x213.Epoch,
     .int .i64 x213.Stamp] 0∧fr' 15 = .ref [v253,v257,.int .i64 x241.Leader,.int .i64 x241.Epoch,
     .int .i64 x241.Stamp] 0∧fr' 110=v9∧fr' 111 = .int .i64 (b6 v2.1.Parts:Int)∧fr' 112 = .int .i64 (i187:Int)) (fun Q316 hN317=>?_) ?_
   ·simp only [d7,e9]
    simp only [qc (g:=145),B0,reduceIte,a7]
    refine qy (t:=(decide ((0:Int)≤x241.Leader))) (fun hg318=>?_) (fun hg318=>?_)
    ·simp only [hg318,qc (g:=145),qw,f305,qp,qb,a8,a9,b4,qs,qm,B0,reduceIte,a7]
     refine qi (v := .int .i64 x241.Leader) rfl ?_
     simp only [hg318,qc (g:=145),qw,f304,qp,qb,a8,a9,b4,qs,qm,B0,reduceIte,a7]
     refine qi (v := .int .i64 x213.Leader) rfl ?_
     simp only [hg318,qc (g:=145),qw,qv,qb,wm,qr,zh,qa,qn,B0,reduceIte,a7]
     exact hN317 _ _ ⟨(r8 (r8 (r8 (r8 (r8 (r8 (r8 (r8 (r8 hS310))))))))),by rw [k8 hg318]; simp only [B0,reduceIte,a7],
       f299,f300,f301,f302,f303,f304,f305,f306,f307,f308⟩
    ·simp only [hg318,qc (g:=145),zy,qr,qb,zi,qa,qn,B0,reduceIte,a7]
     exact hN317 _ _ ⟨(r8 (r8 (r8 (r8 (r8 (r8 (r8 (r8 (r8 hS310))))))))),by rw [k9 hg318]; simp only [B0,reduceIte,a7],
       f299,f300,f301,f302,f303,f304,f305,f306,f307,f308⟩
   rintro fr319 h331 ⟨hS332,f320,f321,f322,f323,f324,f325,f326,f327,f328,f329,f330⟩
   simp only [b7,e8]
   simp only [f320,qg,B0,reduceIte,a7]
   obtain ⟨v336,hx337,hF338⟩:=qk hF291
   refine zr 15 (fun fr' h'=>Sep h' (geL h.length) (c6++(c218++(c14++(c42++(c246++(c226++(c230++(c254++(c258 ++
     ([]))))))))))∧fr' 167 = .bool v336∧fr' 1=lst cU8 v_1∧fr' 5 = .ref [v5,v9,.int .i64 v2.1.Next] 0∧fr' 6 = .ref [.int .i64 v2.2.Kind,.int .i64 v2.2.Broker,
     .int .i64 v2.2.Epoch,.int .i64 v2.2.Part,.int .i64 v2.2.Stamp,v13] 0∧fr' 7 = .ref [v41,v45,
     .int .i64 v38.1.Next] 0∧fr' 8 = .int .i64 v38.2.1∧fr' 14 = .ref [v225,v229,.int .i64 x213.Leader,.int .i64 x213.Epoch,
     .int .i64 x213.Stamp] 0∧fr' 15 = .ref [v253,v257,.int .i64 x241.Leader,.int .i64 x241.Epoch,
     .int .i64 x241.Stamp] 0∧fr' 110=v9∧fr' 111 = .int .i64 (b6 v2.1.Parts:Int)∧fr' 112 = .int .i64 (i187:Int)) (fun Q333 hN334=>?_) ?_
   ·simp only [d7,e9]
    simp only [qc (g:=152),B0,reduceIte,a7]
    refine qy (t:=((decide ((0:Int)≤x241.Leader))&&(decide (x241.Leader≠x213.Leader)))) (fun hg335=>?_) (fun hg335=>?_)
    ·rw [iteT hg335] at hx337
     simp only [hg335,qc (g:=152),qw,f327,qp,qb,a8,a9,b4,qs,qm,B0,reduceIte,a7]
     refine qi (v := .int .i64 x241.Epoch) rfl ?_
     simp only [hg335,qc (g:=152),qw,f326,qp,qb,a8,a9,b4,qs,qm,B0,reduceIte,a7]
     refine qi (v := .int .i64 x213.Epoch) rfl ?_
     simp only [hg335,qc (g:=152),qw,qv,qb,qal,wm,qg,B0,reduceIte,a7]
     obtain ⟨v342,hx343,hF344⟩:=qk hx337
     refine zr 7 (fun fr' h'=>Sep h' (geL h.length) (c6++(c218++(c14++(c42++(c246++(c226++(c230++(c254++(c258 ++
       ([]))))))))))∧fr' 166 = .bool v342∧fr' 1=lst cU8 v_1∧fr' 5 = .ref [v5,v9,.int .i64 v2.1.Next] 0∧fr' 6 = .ref [.int .i64 v2.2.Kind,.int .i64 v2.2.Broker,
       .int .i64 v2.2.Epoch,.int .i64 v2.2.Part,.int .i64 v2.2.Stamp,v13] 0∧fr' 7 = .ref [v41,v45,
       .int .i64 v38.1.Next] 0∧fr' 8 = .int .i64 v38.2.1∧fr' 14 = .ref [v225,v229,.int .i64 x213.Leader,.int .i64 x213.Epoch,
       .int .i64 x213.Stamp] 0∧fr' 15 = .ref [v253,v257,.int .i64 x241.Leader,.int .i64 x241.Epoch,
       .int .i64 x241.Stamp] 0∧fr' 110=v9∧fr' 111 = .int .i64 (b6 v2.1.Parts:Int)∧fr' 112 = .int .i64 (i187:Int)∧fr' 152 = .bool ((decide
       ((0:Int)≤x241.Leader))&&(decide (x241.Leader≠x213.Leader)))) (fun Q339 hN340=>?_) ?_
     ·simp only [d7,e9]
      simp only [qc (g:=159),B0,reduceIte,a7]
      refine qy (t:=(decide (x241.Epoch≠(d8 .i64 (x213.Epoch+1))))) (fun hg341=>?_) (fun hg341=>?_)
      ·rw [iteT hg341] at hx343
       simp only [hg341,qc (g:=159),zv,hg335,qc (g:=152),qw,qr,qb,zh,qa,qn,B0,reduceIte,
         a7]
       have e345:=qj hx343
       exact hN340 _ _ ⟨(r8 (r8 (r8 (r8 (r8 (r8 (r8 (r8 (r8 hS332))))))))),by rw [←e345]; simp only [B0,reduceIte,a7],
         f321,f322,f323,f324,f325,f326,f327,f328,f329,f330,by simp only [hg335,B0,reduceIte,a7]⟩
      ·rw [iteF hg341] at hx343
       simp only [hg341,qc (g:=159),qq,f326,qp,qb,a8,a9,b4,qs,qm,B0,reduceIte,a7]
       refine qi (v:=v229) rfl ?_
       simp only [hg341,qc (g:=159),qq,f327,qp,qb,a8,a9,b4,qs,qm,B0,reduceIte,a7]
       refine qi (v := .int .i64 x241.Leader) rfl ?_
       obtain ⟨v346,hx347,hF348⟩:=qk hx343
       simp only [hg341,qc (g:=159),qq,za,B0,reduceIte,a7]
       refine ja rfl (ql (a0g hv231 (r5 hS332) rfl (fun _=>rfl) (fun _=>rfl)) (ql qu zd)) (qpj
         (fun b hb=>decide_eq_true hb) x213.InStep x241.Leader v346 hx347) ?_
       simp only [hg341,qc (g:=159),qq,je,qb,jt,hg335,qc (g:=152),qw,qr,zi,qa,qn,B0,
         reduceIte,a7]
       have e349:=qj hF348
       exact hN340 _ _ ⟨(r8 (r8 (r8 (r8 (r8 (r8 (r8 (r8 (r8 hS332))))))))),by rw [←e349]; simp only [B0,reduceIte,a7],
         f321,f322,f323,f324,f325,f326,f327,f328,f329,f330,by simp only [hg335,B0,reduceIte,a7]⟩
     rintro fr350 h363 ⟨hS364,f351,f352,f353,f354,f355,f356,f357,f358,f359,f360,f361,f362⟩
     simp only [b7,e8]
     simp only [f362,hg335,qr,qb,zh,f351,qa,qn,B0,reduceIte,a7]
     have e365:=qj hF344
     exact hN334 _ _ ⟨(r8 (r8 (r8 (r8 (r8 (r8 (r8 (r8 (r8 hS364))))))))),by rw [←e365]; simp only [B0,reduceIte,a7],f352,
       f353,f354,f355,f356,f357,f358,f359,f360,f361⟩
    ·rw [iteF hg335] at hx337
     simp only [hg335,qc (g:=152),zy,qc (g:=159),u4,qr,qb,zi,qa,qn,B0,reduceIte,a7]
     have e366:=qj hx337
     exact hN334 _ _ ⟨(r8 (r8 (r8 (r8 (r8 (r8 (r8 (r8 (r8 hS332))))))))),by rw [←e366]; simp only [B0,reduceIte,a7],f321,
       f322,f323,f324,f325,f326,f327,f328,f329,f330⟩
   rintro fr367 h379 ⟨hS380,f368,f369,f370,f371,f372,f373,f374,f375,f376,f377,f378⟩
   simp only [b7,e8]
   simp only [qa,f368,qz,B0,reduceIte,a7]
   refine qx (t:=v336) (fun hc381=>?_) (fun hc381=>?_)
   ·rw [iteT hc381] at hF338
    simp only [qh,qf,qg,qa,q8,B0,reduceIte,a7]
    have e382:=qj hF338
    subst e382
    have ho383:=hr194 _ rfl
    have hk384:=hk192
    rw [ho383] at hk384
    dsimp only [jnO] at hk384
    apply hR198
    have e385:=qj hk384
    subst e385
    have hk114':=hk114
    dsimp only [jnO] at hk114'
    apply hR117
    have he:=qj hk114'
    subst he
    simp only [zg,B0,reduceIte,a7]
    exact rfl
   rw [iteF hc381] at hF338
   simp only [zf,zaq,qh,qf,f375,qp,qb,a8,a9,b4,qs,qm,B0,reduceIte,a7]
   refine qi (v := .int .i64 x241.Stamp) rfl ?_
   simp only [f374,qp,qb,a8,a9,b4,qs,qm,B0,reduceIte,a7]
   refine qi (v := .int .i64 x213.Stamp) rfl ?_
   simp only [qv,qb,z8,qg,B0,reduceIte,a7]
   obtain ⟨v389,hx390,hF391⟩:=qk hF338
   refine zr 14 (fun fr' h'=>Sep h' (geL h.length) (c6++(c218++(c14++(c42++(c246++(c226++(c230++(c254++(c258 ++
     ([]))))))))))∧fr' 187 = .bool v389∧fr' 1=lst cU8 v_1∧fr' 5 = .ref [v5,v9,.int .i64 v2.1.Next] 0∧fr' 6 = .ref [.int .i64 v2.2.Kind,.int .i64 v2.2.Broker,
     .int .i64 v2.2.Epoch,.int .i64 v2.2.Part,.int .i64 v2.2.Stamp,v13] 0∧fr' 7 = .ref [v41,v45,
     .int .i64 v38.1.Next] 0∧fr' 8 = .int .i64 v38.2.1∧fr' 110=v9∧fr' 111 = .int .i64 (b6 v2.1.Parts:Int)∧fr' 112 = .int .i64 (i187:Int))
     (fun Q386 hN387=>?_) ?_
   ·simp only [d7,e9]
    simp only [qc (g:=173),B0,reduceIte,a7]
    refine qy (t:=(decide (x241.Stamp=x213.Stamp))) (fun hg388=>?_) (fun hg388=>?_)
    ·rw [iteT hg388] at hx390
     simp only [hg388,qc (g:=173),qw,f375,qp,qb,a8,a9,b4,qs,qm,B0,reduceIte,a7]
     refine qi (v := .int .i64 x241.Leader) rfl ?_
     simp only [hg388,qc (g:=173),qw,f374,qp,qb,a8,a9,b4,qs,qm,B0,reduceIte,a7]
     refine qi (v := .int .i64 x213.Leader) rfl ?_
     simp only [hg388,qc (g:=173),qw,qv,qb,wm,qg,B0,reduceIte,a7]
     obtain ⟨v395,hx396,hF397⟩:=qk hx390
     refine zr 7 (fun fr' h'=>Sep h' (geL h.length) (c6++(c218++(c14++(c42++(c246++(c226++(c230++(c254++(c258 ++
       ([]))))))))))∧fr' 186 = .bool v395∧fr' 1=lst cU8 v_1∧fr' 5 = .ref [v5,v9,.int .i64 v2.1.Next] 0∧fr' 6 = .ref [.int .i64 v2.2.Kind,.int .i64 v2.2.Broker,
       .int .i64 v2.2.Epoch,.int .i64 v2.2.Part,.int .i64 v2.2.Stamp,v13] 0∧fr' 7 = .ref [v41,v45,
       .int .i64 v38.1.Next] 0∧fr' 8 = .int .i64 v38.2.1∧fr' 110=v9∧fr' 111 = .int .i64 (b6 v2.1.Parts:Int)∧fr' 112 = .int .i64
       (i187:Int)∧fr' 173 = .bool (decide (x241.Stamp=x213.Stamp))) (fun Q392 hN393=>?_) ?_
     ·simp only [d7,e9]
      simp only [qc (g:=179),B0,reduceIte,a7]
      refine qy (t:=(decide (x241.Leader≠x213.Leader))) (fun hg394=>?_) (fun hg394=>?_)
      ·rw [iteT hg394] at hx396
       simp only [hg394,qc (g:=179),zv,hg388,qc (g:=173),qw,qr,qb,zh,qa,qn,B0,reduceIte,
         a7]
       have e398:=qj hx396
       exact hN393 _ _ ⟨(r8 (r8 (r8 (r8 (r8 (r8 (r8 (r8 (r8 hS380))))))))),by rw [←e398]; simp only [B0,reduceIte,a7],
         f369,f370,f371,f372,f373,f376,f377,f378,by simp only [hg388,B0,reduceIte,a7]⟩
      ·rw [iteF hg394] at hx396
       simp only [hg394,qc (g:=179),qq,f375,qp,qb,a8,a9,b4,qs,qm,B0,reduceIte,a7]
       refine qi (v:=v257) rfl ?_
       simp only [hg394,qc (g:=179),qq,f374,qp,qb,a8,a9,b4,qs,qm,B0,reduceIte,a7]
       refine qi (v:=v229) rfl ?_
       obtain ⟨v399,hx400,hF401⟩:=qk hx396
       simp only [hg394,qc (g:=179),qq,za,B0,reduceIte,a7]
       refine ja rfl (ql (a0g hv259 (r8 hS380) rfl (fun _=>rfl) (fun _=>rfl)) (ql (a0g hv231 (r5 hS380) rfl (fun _=>rfl)
         (fun _=>rfl)) zd)) (wx (fun b hb=>decide_eq_true hb) x241.InStep x213.InStep v399 hx400) ?_
       simp only [hg394,qc (g:=179),qq,je,qb,jt,hg388,qc (g:=173),qw,qr,zi,qa,qn,B0,
         reduceIte,a7]
       have e402:=qj hF401
       exact hN393 _ _ ⟨(r8 (r8 (r8 (r8 (r8 (r8 (r8 (r8 (r8 hS380))))))))),by rw [←e402]; simp only [B0,reduceIte,a7],
         f369,f370,f371,f372,f373,f376,f377,f378,by simp only [hg388,B0,reduceIte,a7]⟩
     rintro fr403 h414 ⟨hS415,f404,f405,f406,f407,f408,f409,f410,f411,f412,f413⟩
     simp only [b7,e8]
     simp only [f413,hg388,qr,qb,zh,f404,qa,qn,B0,reduceIte,a7]
     have e416:=qj hF397
     exact hN387 _ _ ⟨(r8 (r8 (r8 (r8 (r8 (r8 (r8 (r8 (r8 hS415))))))))),by rw [←e416]; simp only [B0,reduceIte,a7],f405,
       f406,f407,f408,f409,f410,f411,f412⟩
    ·rw [iteF hg388] at hx390
     simp only [hg388,qc (g:=173),zy,qc (g:=179),u4,qr,qb,zi,qa,qn,B0,reduceIte,a7]
     have e417:=qj hx390
     exact hN387 _ _ ⟨(r8 (r8 (r8 (r8 (r8 (r8 (r8 (r8 (r8 hS380))))))))),by rw [←e417]; simp only [B0,reduceIte,a7],f369,
       f370,f371,f372,f373,f376,f377,f378⟩
   rintro fr418 h428 ⟨hS429,f419,f420,f421,f422,f423,f424,f425,f426,f427⟩
   simp only [b7,e8]
   simp only [qa,f419,qz,B0,reduceIte,a7]
   refine qx (t:=v389) (fun hc430=>?_) (fun hc430=>?_)
   ·rw [iteT hc430] at hF391
    simp only [qh,qf,qg,qa,q8,B0,reduceIte,a7]
    have e431:=qj hF391
    subst e431
    have ho432:=hr194 _ rfl
    have hk433:=hk192
    rw [ho432] at hk433
    dsimp only [jnO] at hk433
    apply hR198
    have e434:=qj hk433
    subst e434
    have hk114':=hk114
    dsimp only [jnO] at hk114'
    apply hR117
    have he:=qj hk114'
    subst he
    simp only [zg,B0,reduceIte,a7]
    exact rfl
   rw [iteF hc430] at hF391
   simp only [zf,qn,B0,reduceIte,a7]
   obtain ⟨c435,hv436,hS437⟩:=a1u (c:=c218) (os:=c226++(c230)) hv221 rfl hx214 jl (Partition.RI (x:=x213) hv227 hv231) (a1d (c1:=c226) (c2:=c230)
     (i5 (r5 (r5 hS429))))
   have hv438:=a1c hv436
   obtain ⟨c439,hv440,hS441⟩:=a1u (c:=c246) (os:=c254++(c258)) hv249 rfl hx242 jl (Partition.RI (x:=x241) hv255 hv259) (a1d (c1:=c254) (c2:=c258)
     (r5 (r5 (r5 hS437))))
   have hv442:=a1c hv440
   have e443:=qj hF391
   exact hN196 _ _ _ e443.symm ⟨c435,c439,f420,f421,f422,f423,f424,f425,hv438,hv442,(o6 (i5 (o6 (o6 hS441))))⟩ (f427) (f426)
  rintro ⟨s445,s448⟩ fr451 h452 rfl ⟨c446,c449,f454,f455,f456,f457,f458,f459,hv447,hv450,hS453⟩
  dsimp only [jnO] at hk192
  dsimp only at *
  unfold qbt at hk192
  simp only [q21,qh,qf,f456,qp,qb,a8,a9,b4,qs,qm,B0,reduceIte,a7]
  refine qi (v := .int .i64 v2.2.Kind) rfl ?_
  simp only [qv,qb,z8,qg,B0,reduceIte,a7]
  refine zr 3 (fun fr' h'=>Sep h' (geL h.length) (c6++(c446++(c14++(c42++(c449++([]))))))∧fr' 195 = .bool ((decide (v2.2.Kind=5))&&(decide
    (v38.2.1=0)))∧fr' 1=lst cU8 v_1∧fr' 5 = .ref [v5,v9,.int .i64 v2.1.Next] 0∧fr' 6 = .ref [.int .i64 v2.2.Kind,.int .i64 v2.2.Broker,.int .i64 v2.2.Epoch,
    .int .i64 v2.2.Part,.int .i64 v2.2.Stamp,v13] 0∧fr' 7 = .ref [v41,v45,.int .i64 v38.1.Next] 0) (fun Q460 hN461=>?_) ?_
  ·simp only [d7,e9]
   simp only [qc (g:=192),B0,reduceIte,a7]
   refine qy (t:=(decide (v2.2.Kind=5))) (fun hg462=>?_) (fun hg462=>?_)
   ·simp only [hg462,qc (g:=192),qw,f458,qg,qv,qb,z8,qr,zh,qa,qn,B0,reduceIte,a7]
    exact hN461 _ _ ⟨(o6 (o6 (o6 (o6 (o6 hS453))))),by rw [k8 hg462]; simp only [B0,reduceIte,a7],f454,f455,f456,f457⟩
   ·simp only [hg462,qc (g:=192),zy,qr,qb,zi,qa,qn,B0,reduceIte,a7]
    exact hN461 _ _ ⟨(o6 (o6 (o6 (o6 (o6 hS453))))),by rw [k9 hg462]; simp only [B0,reduceIte,a7],f454,f455,f456,f457⟩
  rintro fr463 h469 ⟨hS470,f464,f465,f466,f467,f468⟩
  simp only [b7,e8]
  simp only [qa,q3o,f464,qz,B0,reduceIte,a7]
  refine qx (t:=((decide (v2.2.Kind=5))&&(decide (v38.2.1=0)))) (fun hc471=>?_) (fun hc471=>?_)
  ·rw [iteT hc471] at hk192
   simp only [qzl,qh,qf,f466,qp,qb,a8,a9,b4,qs,qm,B0,reduceIte,a7]
   refine qi (v:=v9) rfl ?_
   simp only [f467,qp,qb,a8,a9,b4,qs,qm,B0,reduceIte,a7]
   refine qi (v := .int .i64 v2.2.Part) rfl ?_
   obtain ⟨x472,hx473,hF474⟩:=qk hk192
   simp only [jf,B0,reduceIte,a7]
   obtain ⟨b475,hb476⟩:=a1y hv447 (kq hx473)
   refine qi (SlN.ia hv447 hb476 hx473) ?_
   obtain ⟨c477,cs478,os479,hv480,hR481,hS482⟩:=a12 (a11 hv447 hb476 Partition.RO.len) hx473 jl Partition.RO.len (f8 hS470)
   obtain ⟨v484,c485,v488,c489,hv486,hv490,rfl,rfl⟩:=hR481
   have hS483:=a13 hS482
   simp only [qm,B0,reduceIte,a7]
   refine qi (v := .agg [v484,v488,.int .i64 x472.Leader,.int .i64 x472.Epoch,.int .i64 x472.Stamp]) ((SlG.lds (o:=0) hv480 rfl hx473 hS483 (nle rfl)).trans rfl) ?_
   simp only [z5,B0,reduceIte,a7]
   refine zt hS483 (fun b492 h493 hS494=>?_)
   simp only [zk,B0,reduceIte,a7]
   refine zb (us:=[v484,v488,.int .i64 x472.Leader,.int .i64 x472.Epoch,.int .i64 x472.Stamp]) rfl (cs':=[v484,v488,.int .i64 x472.Leader,
     .int .i64 x472.Epoch,.int .i64 x472.Stamp]) hS494 hW rfl (qo (n7 hv486) (qo (n7 hv490) (qo rfl (qo rfl (qo rfl zl))))) (nle rfl) rfl
     (fun h496 hS497=>?_)
   simp only [qa,B0,reduceIte,a7]
   refine zq hS497 hW (by simp only [B0,reduceIte,a7]) (fun h498 hS499=>?_)
   simp only [zp,q13,qh,ji,z3,qt,a8,a9,b4,qs,z2,B0,reduceIte,a7]
   refine zc (v := .int .i64 x472.Leader) rfl ?_
   simp only [f467,z3,qt,a8,a9,b4,qs,z2,B0,reduceIte,a7]
   refine zc (v := .int .i64 v2.2.Broker) rfl ?_
   simp only [wt,qt,wm,jm,B0,reduceIte,a7]
   refine qf8 6 (fun fr' h'=>Sep h' (geL h.length) (c14++(c42++(c449++(c485++(c489++([]))))))∧fr' 213 = .bool ((decide (x472.Leader≠v2.2.Broker))||(decide
     (x472.Epoch≠v2.2.Epoch)))∧fr' 1=lst cU8 v_1∧fr' 6 = .ref [.int .i64 v2.2.Kind,.int .i64 v2.2.Broker,.int .i64 v2.2.Epoch,.int .i64 v2.2.Part,
     .int .i64 v2.2.Stamp,v13] 0∧fr' 7 = .ref [v41,v45,.int .i64 v38.1.Next] 0∧fr' 16 = .ref [v484,v488,.int .i64 x472.Leader,.int .i64 x472.Epoch,
     .int .i64 x472.Stamp] 0) rfl (fun Q500 hN501=>?_) ?_
   ·simp only [d7,e9]
    simp only [zo (g:=207),B0,reduceIte,a7]
    refine yu (t:=(decide (x472.Leader≠v2.2.Broker))) (fun hg502=>?_) (fun hg502=>?_)
    ·simp only [hg502,zo (g:=207),wj,yd,qt,zh,zm,qn,B0,reduceIte,a7]
     exact hN501 _ _ ⟨(o6 (o6 (o6 (f8 (f8 (l6 (f0 (l6 (hS499))))))))),by rw [orT hg502]; simp only [B0,reduceIte,a7],f465,f467,
       f468,rfl⟩
    ·simp only [hg502,zo (g:=207),zz,z3,qt,a8,a9,b4,qs,z2,B0,reduceIte,a7]
     refine zc (v := .int .i64 x472.Epoch) rfl ?_
     simp only [hg502,zo (g:=207),zz,f467,z3,qt,a8,a9,b4,qs,z2,B0,reduceIte,a7]
     refine zc (v := .int .i64 v2.2.Epoch) rfl ?_
     simp only [hg502,zo (g:=207),zz,wt,qt,wm,yd,zi,zm,qn,B0,reduceIte,a7]
     exact hN501 _ _ ⟨(o6 (o6 (o6 (f8 (f8 (l6 (f0 (l6 (hS499))))))))),by rw [orF hg502]; simp only [B0,reduceIte,a7],f465,f467,
       f468,rfl⟩
   rintro fr503 h509 ⟨hS510,f504,f505,f506,f507,f508⟩
   simp only [b7,e8]
   simp only [f504,jm,qt,B0,reduceIte,a7]
   refine qf8 6 (fun fr' h'=>Sep h' (geL h.length) (c14++(c42++(c449++([]))))∧fr' 220 = .bool (((decide (x472.Leader≠v2.2.Broker))||(decide
     (x472.Epoch≠v2.2.Epoch)))||(decide (x472.Stamp≠v2.2.Stamp)))∧fr' 1=lst cU8 v_1∧fr' 6 = .ref [.int .i64 v2.2.Kind,.int .i64 v2.2.Broker,
     .int .i64 v2.2.Epoch,.int .i64 v2.2.Part,.int .i64 v2.2.Stamp,v13] 0∧fr' 7 = .ref [v41,v45,.int .i64 v38.1.Next] 0) rfl (fun Q511 hN512=>?_) ?_
   ·simp only [d7,e9]
    simp only [zo (g:=214),B0,reduceIte,a7]
    refine yu (t:=((decide (x472.Leader≠v2.2.Broker))||(decide (x472.Epoch≠v2.2.Epoch)))) (fun hg513=>?_) (fun hg513=>?_)
    ·simp only [hg513,zo (g:=214),wj,yd,qt,zh,zm,qn,B0,reduceIte,a7]
     exact hN512 _ _ ⟨(f0 (f0 (f0 (l6 (i5 (l6 (i5 hS510))))))),by rw [orT hg513]; simp only [B0,reduceIte,a7],f505,f506,f507⟩
    ·simp only [hg513,zo (g:=214),zz,f508,z3,qt,a8,a9,b4,qs,z2,B0,reduceIte,a7]
     refine zc (v := .int .i64 x472.Stamp) rfl ?_
     simp only [hg513,zo (g:=214),zz,f506,z3,qt,a8,a9,b4,qs,z2,B0,reduceIte,a7]
     refine zc (v := .int .i64 v2.2.Stamp) rfl ?_
     simp only [hg513,zo (g:=214),zz,wt,qt,wm,yd,zi,zm,qn,B0,reduceIte,a7]
     exact hN512 _ _ ⟨(f0 (f0 (f0 (l6 (i5 (l6 (i5 hS510))))))),by rw [orF hg513]; simp only [B0,reduceIte,a7],f505,f506,f507⟩
   rintro fr514 h519 ⟨hS520,f515,f516,f517,f518⟩
   simp only [b7,e8]
   simp only [f515,jm,qt,B0,reduceIte,a7]
   simp only [zo (g:=221),B0,reduceIte,a7]
   refine yu (t:=(((decide (x472.Leader≠v2.2.Broker))||(decide (x472.Epoch≠v2.2.Epoch)))||(decide (x472.Stamp≠v2.2.Stamp)))) (fun hg521=>?_)
     (fun hg521=>?_)
   ·rw [iteT hg521] at hF474
    simp only [hg521,zo (g:=221),wj,yd,qt,zh,zm,qz,qhh,qh,qf,qg,qa,q8,B0,
      reduceIte,a7]
    have e522:=qj hF474
    subst e522
    have hk114':=hk114
    dsimp only [jnO] at hk114'
    apply hR117
    have he:=qj hk114'
    subst he
    simp only [zg,B0,reduceIte,a7]
    exact rfl
   rw [iteF hg521] at hF474
   simp only [hg521,zo (g:=221),zz,f518,z3,qt,a8,a9,b4,qs,z2,B0,reduceIte,a7]
   refine zc (v:=v45) rfl ?_
   simp only [hg521,zo (g:=221),zz,f517,z3,qt,a8,a9,b4,qs,z2,B0,reduceIte,a7]
   refine zc (v := .int .i64 v2.2.Part) rfl ?_
   obtain ⟨x523,hx524,hF525⟩:=qk hF474
   simp only [hg521,zo (g:=221),zz,wn,B0,reduceIte,a7]
   obtain ⟨b526,hb527⟩:=a1y hv450 (kq hx524)
   refine zc (SlN.ia hv450 hb527 hx524) ?_
   obtain ⟨c528,cs529,os530,hv531,hR532,hS533⟩:=a12 (a11 hv450 hb527 Partition.RO.len) hx524 jl Partition.RO.len (f0 hS520)
   obtain ⟨v535,c536,v539,c540,hv537,hv541,rfl,rfl⟩:=hR532
   have hS534:=a13 hS533
   simp only [hg521,zo (g:=221),zz,z3,qt,a8,a9,b4,q9,z2,B0,reduceIte,a7]
   refine zc (v:=v539) ((SlG.ld (o:=1) hv531 rfl hx524 hS534 (nle rfl)).trans rfl) ?_
   simp only [hg521,zo (g:=221),zz,f517,z3,qt,a8,a9,b4,qs,z2,B0,reduceIte,a7]
   refine zc (v:=v13) rfl ?_
   obtain ⟨v543,hx544,hF545⟩:=qk hF525
   simp only [hg521,zo (g:=221),zz,xx,B0,reduceIte,a7]
   refine qga rfl (ql (a0g hv541 (f0 hS534) rfl (fun _=>rfl) (fun _=>rfl)) (ql (a0g hv15 (i5 hS534) rfl (fun _=>rfl) (fun _=>rfl)) zd))
     (wx (fun b hb=>decide_eq_true hb) x523.InStep v2.2.InStep v543 hx544) ?_
   simp only [hg521,zo (g:=221),zz,qhi,qt,jt,yd,zi,zm,qz,B0,reduceIte,a7]
   refine qx (t:=(!v543)) (fun hc546=>?_) (fun hc546=>?_)
   ·rw [iteT hc546] at hF545
    simp only [qh,qf,qg,qa,q8,B0,reduceIte,a7]
    have e547:=qj hF545
    subst e547
    have hk114':=hk114
    dsimp only [jnO] at hk114'
    apply hR117
    have he:=qj hk114'
    subst he
    simp only [zg,B0,reduceIte,a7]
    exact rfl
   rw [iteF hc546] at hF545
   simp only [zf,q8x,qh,qf,f518,qm,B0,reduceIte,a7]
   refine qi (v := .agg [v41,v45,.int .i64 v38.1.Next]) rfl ?_
   simp only [f517,qm,B0,reduceIte,a7]
   refine qi (v := .agg [.int .i64 v2.2.Kind,.int .i64 v2.2.Broker,.int .i64 v2.2.Epoch,.int .i64 v2.2.Part,.int .i64 v2.2.Stamp,v13]) rfl ?_
   obtain ⟨c548,hv549,hS550⟩:=a1u (c:=c528) (os:=c536++(c540)) hv531 rfl hx524 jl (Partition.RI (x:=x523) hv537 hv541) (a1d (c1:=c536) (c2:=c540)
     (f0 (f0 (f0 hS534))))
   have hv551:=a1c hv549
   obtain ⟨v552,hx553,hF554⟩:=qk hF545
   simp only [za,B0,reduceIte,a7]
   refine wq rfl hS550 (ql (z4 (ql (a0g hv43 (f0 hS550) rfl (fun _=>rfl) (fun _=>rfl)) (ql (a09 hv551 _ hS550 rfl Partition.RO)
     (ql qu zd)))) (ql (z4 (ql qu (ql qu (ql qu (ql qu (ql qu (ql (a0g hv15 (f8 hS550) rfl
     (fun _=>rfl) (fun _=>rfl)) zd))))))) zd)) (qg8 (fun b hb=>decide_eq_true hb) (Control.mk v38.1.Brokers s448 v38.1.Next) v2.2 v552 hx553) ?_
   rintro _ h563 ⟨v555,c556,v559,c560,rfl,hv557,hv561,hS564⟩
   refine ⟨_,u6 (qo (uj (qo (a0k hv557) (qo (a01 hv561) (qo rfl zl)))) (qo rfl (qo rfl zl))),hS564,
     (jg (a1n hv557 (fun _=>rfl)) (jg (a2d hv561 Partition.RO) ye)),fun h565 hS566=>?_⟩
   have hS567:Sep h565 (geL h.length) (c556++(c560++(c548++(c14++(c42++([])))))):=by simpa only [f6,o8] using hS566
   simp only [qg,yi,qb,y6,y8,qgx,z5,B0,reduceIte,a7]
   refine zt hS567 (fun b568 h569 hS570=>?_)
   simp only [zk,B0,reduceIte,a7]
   refine zb (us:=[v555,v559,.int .i64 v552.1.Next]) rfl (cs':=[v555,v559,
     .int .i64 v552.1.Next]) hS570 hW rfl (qo (n7 hv557) (qo (t7 hv561) (qo rfl zl))) (nle rfl) rfl (fun h572 hS573=>?_)
   simp only [qg,qa,B0,reduceIte,a7]
   refine zq hS573 hW (by simp only [B0,reduceIte,a7]) (fun h574 hS575=>?_)
   simp only [zp,q9c,qh,qf,qg,je,qb,jt,B0,reduceIte,a7]
   refine zr 3 (fun fr' h'=>Sep h' (geL h.length) ([])∧fr' 246 = .bool ((!v552.2.2)||(decide (v552.2.1=0)))∧fr' 1=lst cU8 v_1) (fun Q576 hN577=>?_) ?_
   ·simp only [d7,e9]
    simp only [qc (g:=243),B0,reduceIte,a7]
    refine qy (t:=(!v552.2.2)) (fun hg578=>?_) (fun hg578=>?_)
    ·simp only [hg578,qc (g:=243),zv,qr,qb,zh,qa,qn,B0,reduceIte,a7]
     exact hN577 _ _ ⟨(l6 ((l6 ((l6 ((l6 ((l6 (hS575)))))))))),by rw [orT hg578]; simp only [B0,reduceIte,a7],f516⟩
    ·simp only [hg578,qc (g:=243),qq,qg,qv,qb,z8,qr,zi,qa,qn,B0,reduceIte,a7]
     exact hN577 _ _ ⟨(l6 ((l6 ((l6 ((l6 ((l6 (hS575)))))))))),by rw [orF hg578]; simp only [B0,reduceIte,a7],f516⟩
   rintro fr579 h582 ⟨hS583,f580,f581⟩
   simp only [b7,e8]
   simp only [qa,f580,qz,B0,reduceIte,a7]
   refine qx (t:=((!v552.2.2)||(decide (v552.2.1=0)))) (fun hc584=>?_) (fun hc584=>?_)
   ·rw [iteT hc584] at hF554
    simp only [qh,qf,qg,qa,q8,B0,reduceIte,a7]
    have e585:=qj hF554
    subst e585
    have hk114':=hk114
    dsimp only [jnO] at hk114'
    apply hR117
    have he:=qj hk114'
    subst he
    simp only [zg,B0,reduceIte,a7]
    exact rfl
   rw [iteF hc584] at hF554
   simp only [zf,qn,B0,reduceIte,a7]
   have e586:=qj hF554
   exact hN116 _ _ ⟨_,e586.symm,f581,hS583⟩
  rw [iteF hc471] at hk192
  simp only [zf,qn,B0,reduceIte,a7]
  have e587:=qj hk192
  exact hN116 _ _ ⟨_,e587.symm,f465,(l6 ((l6 ((l6 ((l6 ((l6 (hS470))))))))))⟩
 ·rw [iteF hc119] at hX113
  simp only [zf,qn,B0,reduceIte,a7]
  have e589:=qj hX113
  exact hN116 _ _ ⟨_,e589.symm,f91,(l6 ((l6 ((l6 ((l6 ((l6 ((l6 ((l6 (hS99))))))))))))))⟩
 rintro fr590 h591 ⟨_,rfl,f593,hS592⟩
 dsimp only [jnO] at hk114
 unfold qby at hk114
 obtain ⟨v594,hx595,hF596⟩:=qk hk114
 simp only [q1v,qh,qf,f593,qg,za,B0,reduceIte,a7]
 refine wq rfl hS592 (ql zn zd) (qi2 (fun b hb=>decide_eq_true hb) k v_1 v594 hx595) ?_
 rintro _ h605 ⟨v597,c598,v601,c602,rfl,hv599,hv603,hS606⟩
 refine ⟨_,u6 (qo (uj (qo (a0k hv599) (qo (a01 hv603) (qo rfl zl)))) (qo rfl zl)),hS606,
   (jg (a1n hv599 (fun _=>rfl)) (jg (a2d hv603 Partition.RO) ye)),fun h607 hS608=>?_⟩
 have hS609:Sep h607 (geL h.length) (c598++(c602++([]))):=by simpa only [f6,o8] using hS608
 simp only [qg,yi,qb,y6,y8,z5,B0,reduceIte,a7]
 refine zt hS609 (fun b610 h611 hS612=>?_)
 simp only [zk,B0,reduceIte,a7]
 refine zb (us:=[v597,v601,.int .i64 v594.1.Next]) rfl (cs':=[v597,v601,
   .int .i64 v594.1.Next]) hS612 hW rfl (qo (n7 hv599) (qo (t7 hv603) (qo rfl zl))) (nle rfl) rfl (fun h614 hS615=>?_)
 simp only [qg,qa,B0,reduceIte,a7]
 refine zq hS615 hW (by simp only [B0,reduceIte,a7]) (fun h616 hS617=>?_)
 simp only [zp,qzf,qh,qf,qm,B0,reduceIte,a7]
 refine qi (v := .agg [v597,v601,.int .i64 v594.1.Next]) rfl ?_
 obtain ⟨v618,hx619,hF620⟩:=qk hF596
 simp only [qg,za,B0,reduceIte,a7]
 refine wq rfl hS617 (ql (z4 (ql (a0g hv599 hS617 rfl (fun _=>rfl) (fun _=>rfl)) (ql (a09 hv603 _ (f8 hS617) rfl Partition.RO)
   (ql qu zd)))) (ql qu zd)) (qlj (fun b hb=>decide_eq_true hb) v594.1 v594.2 v618 hx619) ?_
 rintro _ h625 ⟨v621,c622,rfl,hv623,hS626⟩
 refine ⟨_,u6 (qo (qjl (a0k hv623)) (qo rfl zl)),hS626,(jg (a1n hv623 (fun _=>rfl)) ye),fun h627 hS628=>?_⟩
 have hS629:Sep h627 (geL h.length) (c622++(c598++(c602++([])))):=by simpa only [f6,o8] using hS628
 simp only [qg,yi,qb,y6,y8,qa,q2t,qh,qf,qm,B0,reduceIte,a7]
 refine qi (v := .agg [v597,v601,.int .i64 v594.1.Next]) rfl ?_
 obtain ⟨v630,hx631,hF632⟩:=qk hF620
 simp only [qg,za,B0,reduceIte,a7]
 refine ja rfl (ql (z4 (ql (a0g hv599 (f8 hS629) rfl (fun _=>rfl) (fun _=>rfl)) (ql (a09 hv603 _ (f0 hS629) rfl Partition.RO)
   (ql qu zd)))) (ql qu zd)) (qlg (fun b hb=>decide_eq_true hb) v594.1 v594.2 v630 hx631) ?_
 obtain ⟨v633,hx634,hF635⟩:=qk hF632
 simp only [qg,yi,qb,y6,y8,qa,q04,qh,qf,f593,za,B0,reduceIte,a7]
 refine wq rfl hS629 (ql zn zd) (qhx (fun b hb=>decide_eq_true hb) k v_1 v633 hx634) ?_
 rintro _ h644 ⟨v636,c637,v640,c641,rfl,hv638,hv642,hS645⟩
 refine ⟨_,qeu (qo (a0k hv638) (qo (a01 hv642) (qo rfl zl))),hS645,
   (jg (a1n hv638 (fun _=>rfl)) (jg (a2d hv642 Partition.RO) ye)),fun h646 hS647=>?_⟩
 have hS648:Sep h646 (geL h.length) (c637++(c641++(c622++(c598++(c602++([])))))):=by simpa only [f6,o8] using hS647
 simp only [z5,B0,reduceIte,a7]
 refine zt hS648 (fun b649 h650 hS651=>?_)
 simp only [zk,B0,reduceIte,a7]
 refine zb (us:=[v636,v640,.int .i64 v633.Next]) rfl (cs':=[v636,v640,
   .int .i64 v633.Next]) hS651 hW rfl (qo (n7 hv638) (qo (t7 hv642) (qo rfl zl))) (nle rfl) rfl (fun h653 hS654=>?_)
 simp only [qa,B0,reduceIte,a7]
 refine zq hS654 hW (by simp only [B0,reduceIte,a7]) (fun h655 hS656=>?_)
 simp only [zp,q1l,qh,qf,qm,B0,reduceIte,a7]
 refine qi (v := .agg [v636,v640,.int .i64 v633.Next]) rfl ?_
 obtain ⟨v657,hx658,hF659⟩:=qk hF635
 simp only [za,B0,reduceIte,a7]
 refine ja rfl (ql (z4 (ql (a0g hv638 hS656 rfl (fun _=>rfl) (fun _=>rfl)) (ql (a09 hv642 _ (f8 hS656) rfl Partition.RO)
   (ql qu zd)))) zd) (qi4 (fun b hb=>decide_eq_true hb) v633 v657 hx658) ?_
 simp only [qg,yi,qb,y6,y8,qa,q3z,qh,qf,qm,B0,reduceIte,a7]
 refine qi (v := .agg [v636,v640,.int .i64 v633.Next]) rfl ?_
 obtain ⟨v660,hx661,hF662⟩:=qk hF659
 simp only [za,B0,reduceIte,a7]
 refine ja rfl (ql (z4 (ql (a0g hv638 hS656 rfl (fun _=>rfl) (fun _=>rfl)) (ql (a09 hv642 _ (f8 hS656) rfl Partition.RO)
   (ql qu zd)))) zd) (qi5 (fun b hb=>decide_eq_true hb) v633 v660 hx661) ?_
 simp only [qg,yi,qb,y6,y8,qa,q40,qh,qf,qm,B0,reduceIte,a7]
 refine qi (v := .agg [v636,v640,.int .i64 v633.Next]) rfl ?_
 obtain ⟨v663,hx664,hF665⟩:=qk hF662
 simp only [za,B0,reduceIte,a7]
 refine wq rfl hS656 (ql (z4 (ql (a0g hv638 hS656 rfl (fun _=>rfl) (fun _=>rfl)) (ql (a09 hv642 _ (f8 hS656) rfl Partition.RO)
   (ql qu zd)))) zd) (qi0 (fun b hb=>decide_eq_true hb) v633 v663 hx664) ?_
 rintro _ h670 ⟨v666,c667,rfl,hv668,hS671⟩
 refine ⟨_,u6 (qo (qjl (a0k hv668)) (qo rfl zl)),hS671,(jg (a1n hv668 (fun _=>rfl)) ye),fun h672 hS673=>?_⟩
 have hS674:Sep h672 (geL h.length) (c667++(c637++(c641++(c622++(c598++(c602++([]))))))):=by simpa only [f6,o8] using hS673
 simp only [qg,yi,qb,y6,y8,qa,q3h,qh,qf,qm,B0,reduceIte,a7]
 refine qi (v := .agg [v636,v640,.int .i64 v633.Next]) rfl ?_
 obtain ⟨v675,hx676,hF677⟩:=qk hF665
 simp only [za,B0,reduceIte,a7]
 refine ja rfl (ql (z4 (ql (a0g hv638 (f8 hS674) rfl (fun _=>rfl) (fun _=>rfl)) (ql (a09 hv642 _ (f0 hS674) rfl Partition.RO)
   (ql qu zd)))) zd) (qiz (fun b hb=>decide_eq_true hb) v633 v675 hx676) ?_
 obtain ⟨v678,hx679,hF680⟩:=qk hF677
 simp only [qg,yi,qb,y6,y8,qa,q0g,qh,qf,f593,za,B0,reduceIte,a7]
 refine ja rfl (ql zn zd) (qh5 (fun b hb=>decide_eq_true hb) v_1 v678 hx679) ?_
 obtain ⟨v681,hx682,hF683⟩:=qk hF680
 simp only [qg,qa,qzq,qh,qf,za,B0,reduceIte,a7]
 refine ja rfl (ql qu zd) (qjq (fun b hb=>decide_eq_true hb) v678 v681 hx682) ?_
 simp only [qg,yi,qb,y6,y8,z5,B0,reduceIte,a7]
 refine zt hS674 (fun b684 h685 hS686=>?_)
 simp only [zk,B0,reduceIte,a7]
 refine zb (us:=[lst qe v681.1.Brokers,lst qd v681.1.Parts,.int .i64 v681.1.Next]) rfl (cs':=[lst qe v681.1.Brokers,
   lst qd v681.1.Parts,.int .i64 v681.1.Next]) hS686 hW rfl rfl (nle rfl) rfl (fun h688 hS689=>?_)
 simp only [qg,qa,B0,reduceIte,a7]
 refine zq hS689 hW (by simp only [B0,reduceIte,a7]) (fun h690 hS691=>?_)
 obtain ⟨v692,hx693,hF694⟩:=qk hF683
 simp only [zp,qz1,qh,qf,qg,za,B0,reduceIte,a7]
 refine wq rfl hS691 (ql qu zd) (qap (fun b hb=>decide_eq_true hb) k v678 v692 hx693) ?_
 rintro _ h703 ⟨v695,c696,v699,c700,rfl,hv697,hv701,hS704⟩
 refine ⟨_,u6 (qo (uj (qo (a0k hv697) (qo (a01 hv701) (qo rfl zl)))) (qo rfl zl)),hS704,
   (jg (a1n hv697 (fun _=>rfl)) (jg (a2d hv701 Partition.RO) ye)),fun h705 hS706=>?_⟩
 have hS707:Sep h705 (geL h.length) (c696++(c700++(c667++(c637++(c641++(c622++(c598++(c602++([]))))))))):=by simpa only [f6,
   o8] using hS706
 simp only [qg,yi,qb,y6,y8,z5,B0,reduceIte,a7]
 refine zt hS707 (fun b708 h709 hS710=>?_)
 simp only [zk,B0,reduceIte,a7]
 refine zb (us:=[v695,v699,.int .i64 v692.1.Next]) rfl (cs':=[v695,v699,
   .int .i64 v692.1.Next]) hS710 hW rfl (qo (n7 hv697) (qo (t7 hv701) (qo rfl zl))) (nle rfl) rfl (fun h712 hS713=>?_)
 simp only [qg,qa,B0,reduceIte,a7]
 refine zq hS713 hW (by simp only [B0,reduceIte,a7]) (fun h714 hS715=>?_)
 simp only [zp,q0w,qh,qf,qg,qgw,qb,qk1,B0,reduceIte,a7]
 obtain ⟨v719,hx720,hF721⟩:=qk hF694
 refine zr 4 (fun fr' h'=>Sep h' (geL h.length) (c667++(c696++(c700 ++
   ([]))))∧fr' 305 = .bool v719∧fr' 27=lst cI v657.1∧fr' 28 = .bool v657.2∧fr' 29=lst cI v660.1∧fr' 30 = .bool v660.2∧fr' 31=v666∧fr' 32 = .bool v663.2∧fr' 33=lst cI v675.1∧fr' 34 = .bool v675.2∧fr' 36 = .ref [lst qe v681.1.Brokers,
   lst qd v681.1.Parts,.int .i64 v681.1.Next] 0∧fr' 37 = .bool v681.2∧fr' 38 = .ref [v695,v699,
   .int .i64 v692.1.Next] 0∧fr' 39 = .bool v692.2) (fun Q716 hN717=>?_) ?_
 ·simp only [d7,e9]
  simp only [qc (g:=301),B0,reduceIte,a7]
  refine qy (t:=(v618.2 == v630.2)) (fun hg718=>?_) (fun hg718=>?_)
  ·rw [iteT hg718] at hx720
   obtain ⟨v722,hx723,hF724⟩:=qk hx720
   simp only [hg718,qc (g:=301),qw,qg,za,B0,reduceIte,a7]
   refine ja rfl (ql (a0g hv623 (s7 hS715) rfl (fun _=>rfl) (fun _=>rfl)) (ql zn zd)) (wx
     (fun b hb=>decide_eq_true hb) v618.1 v630.1 v722 hx723) ?_
   simp only [hg718,qr,qb,zh,qa,qn,B0,reduceIte,a7]
   have e725:=qj hF724
   exact hN717 _ _ ⟨(f0 (f8 (f8 (l6 (i5 (l6 (i5 (l6 (i5 (l6 (i5 (l6 (i5 hS715))))))))))))),by rw [←e725]; simp only [B0,
     reduceIte,a7],rfl,rfl,rfl,rfl,rfl,rfl,rfl,rfl,rfl,rfl,rfl,rfl⟩
  ·rw [iteF hg718] at hx720
   simp only [hg718,qc (g:=301),zy,qr,qb,zi,qa,qn,B0,reduceIte,a7]
   have e726:=qj hx720
   exact hN717 _ _ ⟨(f0 (f8 (f8 (l6 (i5 (l6 (i5 (l6 (i5 (l6 (i5 (l6 (i5 hS715))))))))))))),by rw [←e726]; simp only [B0,
     reduceIte,a7],rfl,rfl,rfl,rfl,rfl,rfl,rfl,rfl,rfl,rfl,rfl,rfl⟩
 rintro fr727 h741 ⟨hS742,f728,f729,f730,f731,f732,f733,f734,f735,f736,f737,f738,f739,f740⟩
 simp only [b7,e8]
 simp only [f728,qg,B0,reduceIte,a7]
 refine zr 4 (fun fr' h'=>Sep h' (geL h.length) (c667++(c696++(c700++([]))))∧fr' 310 = .bool (v719 &&
   (v657.2 == v660.2))∧fr' 27=lst cI v657.1∧fr' 29=lst cI v660.1∧fr' 31=v666∧fr' 32 = .bool v663.2∧fr' 33=lst cI v675.1∧fr' 34 = .bool v675.2∧fr' 36 = .ref [lst qe v681.1.Brokers,
   lst qd v681.1.Parts,.int .i64 v681.1.Next] 0∧fr' 37 = .bool v681.2∧fr' 38 = .ref [v695,v699,
   .int .i64 v692.1.Next] 0∧fr' 39 = .bool v692.2) (fun Q743 hN744=>?_) ?_
 ·simp only [d7,e9]
  simp only [qc (g:=306),B0,reduceIte,a7]
  refine qy (t:=v719) (fun hg745=>?_) (fun hg745=>?_)
  ·simp only [hg745,qc (g:=306),qw,f730,qg,f732,qgw,qb,qk1,qr,zh,qa,qn,B0,reduceIte,a7]
   exact hN744 _ _ ⟨(f0 (f0 (f0 hS742))),by rw [k8 hg745]; simp only [B0,reduceIte,a7],f729,f731,f733,f734,f735,f736,f737,f738,f739,f740⟩
  ·simp only [hg745,qc (g:=306),zy,qr,qb,zi,qa,qn,B0,reduceIte,a7]
   exact hN744 _ _ ⟨(f0 (f0 (f0 hS742))),by rw [k9 hg745]; simp only [B0,reduceIte,a7],f729,f731,f733,f734,f735,f736,f737,f738,f739,f740⟩
 rintro fr746 h758 ⟨hS759,f747,f748,f749,f750,f751,f752,f753,f754,f755,f756,f757⟩
 simp only [b7,e8]
 simp only [f747,qg,B0,reduceIte,a7]
 obtain ⟨v763,hx764,hF765⟩:=qk hF721
 refine zr 4 (fun fr' h'=>Sep h' (geL h.length) (c667++(c696++(c700 ++
   ([]))))∧fr' 315 = .bool v763∧fr' 31=v666∧fr' 32 = .bool v663.2∧fr' 33=lst cI v675.1∧fr' 34 = .bool v675.2∧fr' 36 = .ref [lst qe v681.1.Brokers,
   lst qd v681.1.Parts,.int .i64 v681.1.Next] 0∧fr' 37 = .bool v681.2∧fr' 38 = .ref [v695,v699,
   .int .i64 v692.1.Next] 0∧fr' 39 = .bool v692.2) (fun Q760 hN761=>?_) ?_
 ·simp only [d7,e9]
  simp only [qc (g:=311),B0,reduceIte,a7]
  refine qy (t:=(v719&&(v657.2 == v660.2))) (fun hg762=>?_) (fun hg762=>?_)
  ·rw [iteT hg762] at hx764
   obtain ⟨v766,hx767,hF768⟩:=qk hx764
   simp only [hg762,qc (g:=311),qw,f748,qg,f749,za,B0,reduceIte,a7]
   refine ja rfl (ql zn (ql zn zd)) (wx (fun b hb=>decide_eq_true hb) v657.1 v660.1 v766 hx767) ?_
   simp only [hg762,qr,qb,zh,qa,qn,B0,reduceIte,a7]
   have e769:=qj hF768
   exact hN761 _ _ ⟨(f0 (f0 (f0 hS759))),by rw [←e769]; simp only [B0,reduceIte,a7],f750,f751,f752,f753,f754,f755,f756,f757⟩
  ·rw [iteF hg762] at hx764
   simp only [hg762,qc (g:=311),zy,qr,qb,zi,qa,qn,B0,reduceIte,a7]
   have e770:=qj hx764
   exact hN761 _ _ ⟨(f0 (f0 (f0 hS759))),by rw [←e770]; simp only [B0,reduceIte,a7],f750,f751,f752,f753,f754,f755,f756,f757⟩
 rintro fr771 h781 ⟨hS782,f772,f773,f774,f775,f776,f777,f778,f779,f780⟩
 simp only [b7,e8]
 simp only [f772,qg,B0,reduceIte,a7]
 refine zr 4 (fun fr' h'=>Sep h' (geL h.length) (c667++(c696++(c700++([]))))∧fr' 320 = .bool (v763 &&
   (v663.2 == v675.2))∧fr' 31=v666∧fr' 33=lst cI v675.1∧fr' 36 = .ref [lst qe v681.1.Brokers,lst qd v681.1.Parts,
   .int .i64 v681.1.Next] 0∧fr' 37 = .bool v681.2∧fr' 38 = .ref [v695,v699,.int .i64 v692.1.Next] 0∧fr' 39 = .bool v692.2) (fun Q783 hN784=>?_) ?_
 ·simp only [d7,e9]
  simp only [qc (g:=316),B0,reduceIte,a7]
  refine qy (t:=v763) (fun hg785=>?_) (fun hg785=>?_)
  ·simp only [hg785,qc (g:=316),qw,f774,qg,f776,qgw,qb,qk1,qr,zh,qa,qn,B0,reduceIte,a7]
   exact hN784 _ _ ⟨(f0 (f0 (f0 hS782))),by rw [k8 hg785]; simp only [B0,reduceIte,a7],f773,f775,f777,f778,f779,f780⟩
  ·simp only [hg785,qc (g:=316),zy,qr,qb,zi,qa,qn,B0,reduceIte,a7]
   exact hN784 _ _ ⟨(f0 (f0 (f0 hS782))),by rw [k9 hg785]; simp only [B0,reduceIte,a7],f773,f775,f777,f778,f779,f780⟩
 rintro fr786 h794 ⟨hS795,f787,f788,f789,f790,f791,f792,f793⟩
 simp only [b7,e8]
 simp only [f787,qg,B0,reduceIte,a7]
 obtain ⟨v799,hx800,hF801⟩:=qk hF765
 refine zr 4 (fun fr' h'=>Sep h' (geL h.length) (c696++(c700++([])))∧fr' 325 = .bool v799∧fr' 36 = .ref [lst qe v681.1.Brokers,
   lst qd v681.1.Parts,.int .i64 v681.1.Next] 0∧fr' 37 = .bool v681.2∧fr' 38 = .ref [v695,v699,
   .int .i64 v692.1.Next] 0∧fr' 39 = .bool v692.2) (fun Q796 hN797=>?_) ?_
 ·simp only [d7,e9]
  simp only [qc (g:=321),B0,reduceIte,a7]
  refine qy (t:=(v763&&(v663.2 == v675.2))) (fun hg798=>?_) (fun hg798=>?_)
  ·rw [iteT hg798] at hx800
   obtain ⟨v802,hx803,hF804⟩:=qk hx800
   simp only [hg798,qc (g:=321),qw,f788,qg,f789,za,B0,reduceIte,a7]
   refine ja rfl (ql (a0g hv668 hS795 rfl (fun _=>rfl) (fun _=>rfl)) (ql zn zd)) (wx
     (fun b hb=>decide_eq_true hb) v663.1 v675.1 v802 hx803) ?_
   simp only [hg798,qr,qb,zh,qa,qn,B0,reduceIte,a7]
   have e805:=qj hF804
   exact hN797 _ _ ⟨(f8 (f8 (l6 (hS795)))),by rw [←e805]; simp only [B0,reduceIte,a7],f790,f791,f792,f793⟩
  ·rw [iteF hg798] at hx800
   simp only [hg798,qc (g:=321),zy,qr,qb,zi,qa,qn,B0,reduceIte,a7]
   have e806:=qj hx800
   exact hN797 _ _ ⟨(f8 (f8 (l6 (hS795)))),by rw [←e806]; simp only [B0,reduceIte,a7],f790,f791,f792,f793⟩
 rintro fr807 h813 ⟨hS814,f808,f809,f810,f811,f812⟩
 simp only [b7,e8]
 simp only [f808,qg,B0,reduceIte,a7]
 refine zr 4 (fun fr' h'=>Sep h' (geL h.length) (c696++(c700++([])))∧fr' 330 = .bool (v799&&(v681.2 == v692.2))∧fr' 36 = .ref [lst qe v681.1.Brokers,
   lst qd v681.1.Parts,.int .i64 v681.1.Next] 0∧fr' 38 = .ref [v695,v699,.int .i64 v692.1.Next] 0) (fun Q815 hN816=>?_) ?_
 ·simp only [d7,e9]
  simp only [qc (g:=326),B0,reduceIte,a7]
  refine qy (t:=v799) (fun hg817=>?_) (fun hg817=>?_)
  ·simp only [hg817,qc (g:=326),qw,f810,qg,f812,qgw,qb,qk1,qr,zh,qa,qn,B0,reduceIte,a7]
   exact hN816 _ _ ⟨(f8 (f8 hS814)),by rw [k8 hg817]; simp only [B0,reduceIte,a7],f809,f811⟩
  ·simp only [hg817,qc (g:=326),zy,qr,qb,zi,qa,qn,B0,reduceIte,a7]
   exact hN816 _ _ ⟨(f8 (f8 hS814)),by rw [k9 hg817]; simp only [B0,reduceIte,a7],f809,f811⟩
 rintro fr818 h822 ⟨hS823,f819,f820,f821⟩
 simp only [b7,e8]
 simp only [f819,qg,B0,reduceIte,a7]
 obtain ⟨v827,hx828,hF829⟩:=qk hF801
 refine zr 4 (fun fr' h'=>Sep h' (geL h.length) ([])∧fr' 335 = .bool v827) (fun Q824 hN825=>?_) ?_
 ·simp only [d7,e9]
  simp only [qc (g:=331),B0,reduceIte,a7]
  refine qy (t:=(v799&&(v681.2 == v692.2))) (fun hg826=>?_) (fun hg826=>?_)
  ·rw [iteT hg826] at hx828
   simp only [hg826,qc (g:=331),qw,f820,qm,B0,reduceIte,a7]
   refine qi (v := .agg [lst qe v681.1.Brokers,lst qd v681.1.Parts,.int .i64 v681.1.Next]) rfl ?_
   simp only [hg826,qc (g:=331),qw,f821,qm,B0,reduceIte,a7]
   refine qi (v := .agg [v695,v699,.int .i64 v692.1.Next]) rfl ?_
   obtain ⟨v830,hx831,hF832⟩:=qk hx828
   simp only [hg826,qc (g:=331),qw,za,B0,reduceIte,a7]
   refine ja rfl (ql (z4 (ql zn (ql zn (ql qu zd)))) (ql (z4 (ql (a0g hv697 hS823 rfl (fun _=>rfl) (fun _=>rfl))
     (ql (a09 hv701 _ (f8 hS823) rfl Partition.RO) (ql qu zd)))) zd)) (qcz
     (fun b hb=>decide_eq_true hb) v681.1 v692.1 v830 hx831) ?_
   simp only [hg826,qr,qb,zh,qa,qn,B0,reduceIte,a7]
   have e833:=qj hF832
   exact hN825 _ _ ⟨(l6 ((l6 (hS823)))),by rw [←e833]; simp only [B0,reduceIte,a7]⟩
  ·rw [iteF hg826] at hx828
   simp only [hg826,qc (g:=331),zy,qr,qb,zi,qa,qn,B0,reduceIte,a7]
   have e834:=qj hx828
   exact hN825 _ _ ⟨(l6 ((l6 (hS823)))),by rw [←e834]; simp only [B0,reduceIte,a7]⟩
 rintro fr835 h837 ⟨hS838,f836⟩
 simp only [b7,e8]
 simp only [f836,qg,qa,q8,B0,reduceIte,a7]
 have he:=qj hF829
 subst he
 simp only [zg,B0,reduceIte,a7]
 exact rfl
end Go.Proofs.Ytjloihcijdcpeaa.X
