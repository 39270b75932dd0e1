/- The functions' code comes to what the plain functions say (2). -/
import Derived.Test.YtdhibknhejhfaaaXEH1
set_option linter.unusedVariables false
set_option linter.unusedSimpArgs false
set_option maxRecDepth 100000
namespace Go.Proofs.Ytdhibknhejhfaaa.X
open Go
open Nat (reduceEqDiff)
theorem qi5 {W:Nat→Bool}{h:Heap} (hW:∀ b,
  (geL h.length) b→W b=true) (x_0:Reader) (cap_0:Readers_) (cap_1:Int) (r:Bool) (hF:uz x_0 cap_0 cap_1=some r) : Ret E W 57 [.agg [.bool x_0.In,
  .int .i64 x_0.Generation,lst cI x_0.Share,lst cI x_0.Read],.ref (Readers_.cells cap_0) 0,
  .ref (cI cap_1) 0] h (fun v h'=>cut h.length h' E.sz false 9 v=some (.bool r)):=by
 refine Ret.of (fn:=x57) rfl (Run.of ?_)
 unfold uz at hF
 have zf0:zb [.agg [.bool x_0.In,.int .i64 x_0.Generation,lst cI x_0.Share,lst cI x_0.Read],.ref (Readers_.cells cap_0) 0,.ref (cI cap_1) 0] 0 = .agg [.bool x_0.In,
   .int .i64 x_0.Generation,lst cI x_0.Share,lst cI x_0.Read]:=rfl
 have zf1:zb [.agg [.bool x_0.In,.int .i64 x_0.Generation,lst cI x_0.Share,lst cI x_0.Read],.ref (Readers_.cells cap_0) 0,
   .ref (cI cap_1) 0] 1 = .ref (Readers_.cells cap_0) 0:=rfl
 have zf2:zb [.agg [.bool x_0.In,.int .i64 x_0.Generation,lst cI x_0.Share,lst cI x_0.Read],.ref (Readers_.cells cap_0) 0,.ref (cI cap_1) 0] 2 = .ref (cI cap_1) 0:=rfl
 generalize zb [.agg [.bool x_0.In,.int .i64 x_0.Generation,lst cI x_0.Share,lst cI x_0.Read],.ref (Readers_.cells cap_0) 0,.ref (cI cap_1) 0]=fr0 at zf0 zf1 zf2 ⊢
 have hS:Sep h (geL h.length) []:=Sep.nil h
 simp only [x57,qf,qe,jy,zf0,B0,reduceIte,reduceEqDiff]
 refine jk (cs:=[.bool x_0.In,.int .i64 x_0.Generation,lst cI x_0.Share,lst cI x_0.Read]) hS rfl rfl rfl (fun b1 h2 hS3=>?_)
 simp only [qd,qa,B0,reduceIte,reduceEqDiff]
 refine zu hS3 hW (by simp only [B0,reduceIte,reduceEqDiff]) (fun h5 hS6=>?_)
 simp only [zp,qzm,qf,qe,qt,qb,Nat.reduceAdd,Nat.zero_add,Nat.add_zero,qq,qn,B0,reduceIte,reduceEqDiff]
 refine qj (v := .bool x_0.In) rfl ?_
 simp only [qd,B0,reduceIte,reduceEqDiff]
 refine z4 6 (fun fr' h'=>Sep h' (geL h.length) ([])∧fr' 13 = .bool (x_0.In&&(decide (x_0.Generation=cap_0.Generation)))∧fr' 2 = .ref
   (cI cap_1) 0∧fr' 3 = .ref [.bool x_0.In,.int .i64 x_0.Generation,lst cI x_0.Share,lst cI x_0.Read] 0) (fun Q7 hN8=>?_) ?_
 ·simp only [List.take_succ_cons,List.take_zero]
  simp only [qc (g:=7),B0,reduceIte,reduceEqDiff]
  refine q8 (t:=x_0.In) (fun hg9=>?_) (fun hg9=>?_)
  ·simp only [hg9,qc (g:=7),zf,qt,qb,Nat.reduceAdd,Nat.zero_add,Nat.add_zero,qq,qn,B0,reduceIte,reduceEqDiff]
   refine qj (v := .int .i64 x_0.Generation) rfl ?_
   simp only [hg9,qc (g:=7),zf,zf1,qt,qb,Nat.reduceAdd,Nat.zero_add,Nat.add_zero,qq,qn,B0,reduceIte,reduceEqDiff]
   refine qj (v := .int .i64 cap_0.Generation) rfl ?_
   simp only [hg9,qc (g:=7),zf,q9,qb,yx,qr,zk,qa,qm,B0,reduceIte,reduceEqDiff]
   exact hN8 _ _ ⟨hS6,by rw [xj hg9]; simp only [B0,reduceIte,reduceEqDiff],zf2,by simp only [B0,reduceIte,reduceEqDiff,hg9]⟩
  ·simp only [hg9,qc (g:=7),jh,qr,qb,zj,qa,qm,B0,reduceIte,reduceEqDiff]
   exact hN8 _ _ ⟨hS6,by rw [xy hg9]; simp only [B0,reduceIte,reduceEqDiff],zf2,by simp only [B0,reduceIte,reduceEqDiff,hg9]⟩
 rintro fr10 h14 ⟨hS15,f11,f12,f13⟩
 simp only [List.drop_succ_cons,List.drop_zero]
 simp only [f11,qd,B0,reduceIte,reduceEqDiff]
 obtain ⟨v19,hx20,hF21⟩:=qh hF
 refine z4 5 (fun fr' h'=>Sep h' (geL h.length) ([])∧fr' 19 = .bool v19) (fun Q16 hN17=>?_) ?_
 ·simp only [List.take_succ_cons,List.take_zero]
  simp only [qc (g:=14),B0,reduceIte,reduceEqDiff]
  refine q8 (t:=(x_0.In&&(decide (x_0.Generation=cap_0.Generation)))) (fun hg18=>?_) (fun hg18=>?_)
  ·rw [iteT hg18] at hx20
   simp only [hg18,qc (g:=14),zf,f13,qt,qb,Nat.reduceAdd,Nat.zero_add,Nat.add_zero,qq,qn,B0,reduceIte,reduceEqDiff]
   refine qj (v:=lst cI x_0.Share) rfl ?_
   simp only [hg18,qc (g:=14),zf,f12,qn,B0,reduceIte,reduceEqDiff]
   refine qj (v := .int .i64 cap_1) rfl ?_
   obtain ⟨v22,hx23,hF24⟩:=qh hx20
   simp only [hg18,qc (g:=14),zf,qw,B0,reduceIte,reduceEqDiff]
   refine je rfl (qi ze (qi qs qy)) (x8 (fun b hb=>decide_eq_true hb) x_0.Share cap_1 v22 hx23) ?_
   simp only [hg18,qr,qb,zk,qa,qm,B0,reduceIte,reduceEqDiff]
   have e25:=qg hF24
   exact hN17 _ _ ⟨hS15,by rw [←e25]; simp only [B0,reduceIte,reduceEqDiff]⟩
  ·rw [iteF hg18] at hx20
   simp only [hg18,qc (g:=14),jh,qr,qb,zj,qa,qm,B0,reduceIte,reduceEqDiff]
   have e26:=qg hx20
   exact hN17 _ _ ⟨hS15,by rw [←e26]; simp only [B0,reduceIte,reduceEqDiff]⟩
 rintro fr27 h29 ⟨hS30,f28⟩
 simp only [List.drop_succ_cons,List.drop_zero]
 simp only [f28,qd,qa,qx,B0,reduceIte,reduceEqDiff]
 have he:=qg hF21
 subst he
 simp only [zi,B0,reduceIte,reduceEqDiff]
 exact rfl
theorem qkk {W:Nat→Bool}{h:Heap} (hW:∀ b,
  (geL h.length) b→W b=true) (r_0:Readers_) (part_1:Int) (r:Int × Bool) (hF:wq r_0 part_1=some r) : Ret E W 14 [.agg [.int .i64 r_0.Generation,
  lst Reader.cells r_0.Readers,lst cI r_0.Committed,lst cI r_0.Ends],.int .i64 part_1] h (fun v h'=>cut h.length h' E.sz false 9 v=some (.tup [.int .i64 r.1,
  .bool r.2])):=by
 refine Ret.of (fn:=x14) rfl (Run.of ?_)
 unfold wq at hF
 have zf0:zb [.agg [.int .i64 r_0.Generation,lst Reader.cells r_0.Readers,lst cI r_0.Committed,lst cI r_0.Ends],.int .i64 part_1] 0 = .agg [.int .i64 r_0.Generation,
   lst Reader.cells r_0.Readers,lst cI r_0.Committed,lst cI r_0.Ends]:=rfl
 have zf1:zb [.agg [.int .i64 r_0.Generation,lst Reader.cells r_0.Readers,lst cI r_0.Committed,lst cI r_0.Ends],.int .i64 part_1] 1 = .int .i64 part_1:=rfl
 generalize zb [.agg [.int .i64 r_0.Generation,lst Reader.cells r_0.Readers,lst cI r_0.Committed,lst cI r_0.Ends],.int .i64 part_1]=fr0 at zf0 zf1 ⊢
 have hS:Sep h (geL h.length) []:=Sep.nil h
 simp only [x14,qf,qe,jy,zf0,B0,reduceIte,reduceEqDiff]
 refine jk (cs:=[.int .i64 r_0.Generation,lst Reader.cells r_0.Readers,lst cI r_0.Committed,lst cI r_0.Ends]) hS rfl rfl rfl (fun b1 h2 hS3=>?_)
 simp only [jy,zf1,B0,reduceIte,reduceEqDiff]
 refine jk (cs:=[.int .i64 part_1]) hS3 rfl rfl rfl (fun b5 h6 hS7=>?_)
 simp only [qd,qa,B0,reduceIte,reduceEqDiff]
 refine zu (Sep.m1 hS7) hW (by simp only [B0,reduceIte,reduceEqDiff]) (fun h9 hS10=>?_)
 refine zu hS10 hW (by simp only [B0,reduceIte,reduceEqDiff]) (fun h11 hS12=>?_)
 simp only [zp,q1q,qf,qe,qn,B0,reduceIte,reduceEqDiff]
 refine qj (v := .agg [.int .i64 r_0.Generation,lst Reader.cells r_0.Readers,lst cI r_0.Committed,lst cI r_0.Ends]) rfl ?_
 obtain ⟨v13,hx14,hF15⟩:=qh hF
 simp only [qw,B0,reduceIte,reduceEqDiff]
 refine je rfl (qi (jb (qi qs (qi ze (qi ze (qi ze qy))))) qy) (uk
   (fun b hb=>decide_eq_true hb) r_0 v13 hx14) ?_
 simp only [jf,qb,jt,qa,qwc,za,B0,reduceIte,reduceEqDiff]
 refine qz (t:=(!v13)) (fun hc16=>?_) (fun hc16=>?_)
 ·rw [iteT hc16] at hF15
  simp only [qf,qe,qd,qa,qx,B0,reduceIte,reduceEqDiff]
  have he:=qg hF15
  subst he
  simp only [wc,B0,reduceIte,reduceEqDiff]
  exact w9 (qi rfl (qi rfl qy))
 rw [iteF hc16] at hF15
 simp only [zh,q1v,qf,qe,qt,qb,Nat.reduceAdd,Nat.zero_add,Nat.add_zero,qq,qn,B0,reduceIte,reduceEqDiff]
 refine qj (v:=lst Reader.cells r_0.Readers) rfl ?_
 obtain ⟨v17,hx18,hF19⟩:=qh hF15
 simp only [q28,qw,B0,reduceIte,reduceEqDiff]
 refine je rfl (qi ze (qi qjz qy)) (qfe (fun b hb=>decide_eq_true hb) r_0.Readers (g1:=57)
   (caps1:=[.ref [.int .i64 r_0.Generation,lst Reader.cells r_0.Readers,lst cI r_0.Committed,lst cI r_0.Ends] 0,
   .ref [.int .i64 part_1] 0]) rfl (fun a0=>uz a0 r_0 part_1) (fun W h hW a0 r hr=>qi5 hW a0 r_0 part_1 r hr) v17 hx18) ?_
 simp only [qd,qa,q1d,qf,qe,q9,qb,qeb,qwq,za,B0,reduceIte,reduceEqDiff]
 refine qz (t:=(decide (v17<0))) (fun hc20=>?_) (fun hc20=>?_)
 ·rw [iteT hc20] at hF19
  simp only [qf,qe,qd,qa,qx,B0,reduceIte,reduceEqDiff]
  have he:=qg hF19
  subst he
  simp only [wc,B0,reduceIte,reduceEqDiff]
  exact w9 (qi rfl (qi rfl qy))
 rw [iteF hc20] at hF19
 simp only [zh,qf,qe,qd,qa,qx,B0,reduceIte,reduceEqDiff]
 have he:=qg hF19
 subst he
 simp only [wc,B0,reduceIte,reduceEqDiff]
 exact w9 (qi rfl (qi rfl qy))
theorem qik {W:Nat→Bool}{h:Heap} (hW:∀ b,
  (geL h.length) b→W b=true) (r_0:Readers_) (r:Int × Bool) (hF:yy r_0=some r) : Ret E W 16 [.agg [.int .i64 r_0.Generation,
  lst Reader.cells r_0.Readers,lst cI r_0.Committed,lst cI r_0.Ends]] h (fun v h'=>cut h.length h' E.sz false 9 v=some (.tup [.int .i64 r.1,.bool r.2])):=by
 refine Ret.of (fn:=x16) rfl (Run.of ?_)
 unfold yy at hF
 have zf0:zb [.agg [.int .i64 r_0.Generation,lst Reader.cells r_0.Readers,lst cI r_0.Committed,lst cI r_0.Ends]] 0 = .agg [.int .i64 r_0.Generation,
   lst Reader.cells r_0.Readers,lst cI r_0.Committed,lst cI r_0.Ends]:=rfl
 generalize zb [.agg [.int .i64 r_0.Generation,lst Reader.cells r_0.Readers,lst cI r_0.Committed,lst cI r_0.Ends]]=fr0 at zf0 ⊢
 have hS:Sep h (geL h.length) []:=Sep.nil h
 simp only [x16,qf,qe,jy,zf0,B0,reduceIte,reduceEqDiff]
 refine jk (cs:=[.int .i64 r_0.Generation,lst Reader.cells r_0.Readers,lst cI r_0.Committed,lst cI r_0.Ends]) hS rfl rfl rfl (fun b1 h2 hS3=>?_)
 simp only [qd,qa,B0,reduceIte,reduceEqDiff]
 refine zu hS3 hW (by simp only [B0,reduceIte,reduceEqDiff]) (fun h5 hS6=>?_)
 simp only [zp,q0n,qf,qe,qn,B0,reduceIte,reduceEqDiff]
 refine qj (v := .agg [.int .i64 r_0.Generation,lst Reader.cells r_0.Readers,lst cI r_0.Committed,lst cI r_0.Ends]) rfl ?_
 obtain ⟨v7,hx8,hF9⟩:=qh hF
 simp only [qw,B0,reduceIte,reduceEqDiff]
 refine je rfl (qi (jb (qi qs (qi ze (qi ze (qi ze qy))))) qy) (uk
   (fun b hb=>decide_eq_true hb) r_0 v7 hx8) ?_
 simp only [jf,qb,jt,qa,qw5,za,B0,reduceIte,reduceEqDiff]
 refine qz (t:=(!v7)) (fun hc10=>?_) (fun hc10=>?_)
 ·rw [iteT hc10] at hF9
  simp only [qf,qe,qd,qa,qx,B0,reduceIte,reduceEqDiff]
  have he:=qg hF9
  subst he
  simp only [wc,B0,reduceIte,reduceEqDiff]
  exact w9 (qi rfl (qi rfl qy))
 rw [iteF hc10] at hF9
 simp only [zh,qvj,qf,qe,qd,qa,qun,qt,qb,Nat.reduceAdd,Nat.zero_add,Nat.add_zero,qq,qn,B0,reduceIte,
   reduceEqDiff]
 refine qj (v:=lst cI r_0.Ends) rfl ?_
 simp only [zo,qb,zr,qd,qa,B0,reduceIte,reduceEqDiff]
 obtain ⟨oc15,hX17,hk18⟩:=jj hF9
 simp only [qxk]
 refine j8 (σ:=Int) r_0.Ends (fun i13 x14 s40=>qa2 r_0 i13 x14 s40) (fun s fr' h'=>fr' 1 = .ref [.int .i64 r_0.Generation,
   lst Reader.cells r_0.Readers,lst cI r_0.Committed,lst cI r_0.Ends] 0∧fr' 4 = .int .i64 s∧fr' 11=lst cI r_0.Ends∧Sep h' (geL h.length) ([])) hX17 ⟨rfl,rfl,rfl,
   hS6⟩ (by simp only [B0,reduceIte,reduceEqDiff]) (by simp only [B0,reduceIte,
   reduceEqDiff]) (fun _ _ _ h=>h) rfl rfl (fun _ _ _ _ h=>h) (fun _ _ _ _ h=>h) (fun _ _ _ _ h=>h) (by decide) ?_ ?_
 ·rintro i13 x14 s12 fr27 h28 hx33 ⟨f30,f31,f32,hS29⟩ f34 f35 oc16 hF19 hr20 Q21 hN22 hB26 hK23 hR24 hE25
  unfold qa2 at hF19
  simp only [qyr,qf,qe,f34,qd,f32,jo,B0,reduceIte,reduceEqDiff]
  refine qj (v := .ref (cI x14) 0) (j7 hx33 rfl) ?_
  simp only [qn,B0,reduceIte,reduceEqDiff]
  refine qj (v := .int .i64 x14) rfl ?_
  simp only [qd,qa,q0q,qe,f31,f30,qt,qb,Nat.reduceAdd,Nat.zero_add,Nat.add_zero,qq,qn,B0,reduceIte,reduceEqDiff]
  refine qj (v:=lst cI r_0.Committed) rfl ?_
  obtain ⟨x36,hx37,hF38⟩:=qh hF19
  simp only [qd,jo,B0,reduceIte,reduceEqDiff]
  refine qj (v := .ref (cI x36) 0) (wu hx37 rfl) ?_
  simp only [qn,B0,reduceIte,reduceEqDiff]
  refine qj (v := .int .i64 x36) rfl ?_
  simp only [q9,qb,qdm,u0,qd,qa,qm,B0,reduceIte,reduceEqDiff]
  have e39:=qg hF38
  exact hN22 _ _ _ e39.symm ⟨f30,rfl,f32,hS29⟩ (f34) (f35)
 rintro s41 fr42 h43 rfl ⟨f45,f46,f47,hS44⟩
 dsimp only [jnO] at hk18
 unfold qej at hk18
 simp only [qf,qe,f46,qd,qa,qx,B0,reduceIte,reduceEqDiff]
 have he:=qg hk18
 subst he
 simp only [wc,B0,reduceIte,reduceEqDiff]
 exact w9 (qi rfl (qi rfl qy))
theorem wm {W:Nat→Bool}{h:Heap} (hW:∀ b,
  (geL h.length) b→W b=true) (n_0:Int) (lo_1:Int) (hi_2:Int) (r:Bool) (hF:some (zx n_0 lo_1 hi_2)=some r) : Ret E W 69 [.int .i64 n_0,.int .i64 lo_1,
  .int .i64 hi_2] h (fun v h'=>cut h.length h' E.sz false 9 v=some (.bool r)):=by
 refine Ret.of (fn:=x69) rfl (Run.of ?_)
 unfold zx at hF
 have zf0:zb [.int .i64 n_0,.int .i64 lo_1,.int .i64 hi_2] 0 = .int .i64 n_0:=rfl
 have zf1:zb [.int .i64 n_0,.int .i64 lo_1,.int .i64 hi_2] 1 = .int .i64 lo_1:=rfl
 have zf2:zb [.int .i64 n_0,.int .i64 lo_1,.int .i64 hi_2] 2 = .int .i64 hi_2:=rfl
 generalize zb [.int .i64 n_0,.int .i64 lo_1,.int .i64 hi_2]=fr0 at zf0 zf1 zf2 ⊢
 have hS:Sep h (geL h.length) []:=Sep.nil h
 simp only [x69,qf,qe,qd,qa,qvu,zf0,zf1,q9,qb,qd5,B0,reduceIte,reduceEqDiff]
 refine z4 4 (fun fr' h'=>Sep h' (geL h.length) ([])∧fr' 14 = .bool ((decide (lo_1≤n_0))&&(decide (n_0≤hi_2)))) (fun Q1 hN2=>?_) ?_
 ·simp only [List.take_succ_cons,List.take_zero]
  simp only [qc (g:=10),B0,reduceIte,reduceEqDiff]
  refine q8 (t:=(decide (lo_1≤n_0))) (fun hg3=>?_) (fun hg3=>?_)
  ·simp only [hg3,qc (g:=10),zf,zf0,qd,zf2,q9,qb,qn1,qr,zk,qa,qm,B0,reduceIte,reduceEqDiff]
   exact hN2 _ _ ⟨hS,by rw [xj hg3]; simp only [B0,reduceIte,reduceEqDiff]⟩
  ·simp only [hg3,qc (g:=10),jh,qr,qb,zj,qa,qm,B0,reduceIte,reduceEqDiff]
   exact hN2 _ _ ⟨hS,by rw [xy hg3]; simp only [B0,reduceIte,reduceEqDiff]⟩
 rintro fr4 h6 ⟨hS7,f5⟩
 simp only [List.drop_succ_cons,List.drop_zero]
 simp only [f5,qd,qa,qx,B0,reduceIte,reduceEqDiff]
 have he:=qg hF
 subst he
 simp only [zi,B0,reduceIte,reduceEqDiff]
 exact rfl
theorem qds {W:Nat→Bool}{h:Heap} (hW:∀ b,
  (geL h.length) b→W b=true) (r_0:Readers_) (k_1:Int) (r:List Int) (hF:ug r_0 k_1=some r) : Ret E W 73 [.agg [.int .i64 r_0.Generation,
  lst Reader.cells r_0.Readers,lst cI r_0.Committed,lst cI r_0.Ends],.int .i64 k_1] h (fun v h'=>∃ rv0 rc0,
  v=rv0∧SlF cI 1 3 rv0 r rc0∧Sep h' (geL h.length) (rc0++([]))):=by
 refine Ret.of (fn:=x73) rfl (Run.of ?_)
 unfold ug at hF
 have zf0:zb [.agg [.int .i64 r_0.Generation,lst Reader.cells r_0.Readers,lst cI r_0.Committed,lst cI r_0.Ends],.int .i64 k_1] 0 = .agg [.int .i64 r_0.Generation,
   lst Reader.cells r_0.Readers,lst cI r_0.Committed,lst cI r_0.Ends]:=rfl
 have zf1:zb [.agg [.int .i64 r_0.Generation,lst Reader.cells r_0.Readers,lst cI r_0.Committed,lst cI r_0.Ends],.int .i64 k_1] 1 = .int .i64 k_1:=rfl
 generalize zb [.agg [.int .i64 r_0.Generation,lst Reader.cells r_0.Readers,lst cI r_0.Committed,lst cI r_0.Ends],.int .i64 k_1]=fr0 at zf0 zf1 ⊢
 have hS:Sep h (geL h.length) []:=Sep.nil h
 simp only [x73,qf,qe,jy,zf0,B0,reduceIte,reduceEqDiff]
 refine jk (cs:=[.int .i64 r_0.Generation,lst Reader.cells r_0.Readers,lst cI r_0.Committed,lst cI r_0.Ends]) hS rfl rfl rfl (fun b1 h2 hS3=>?_)
 simp only [qd,qa,B0,reduceIte,reduceEqDiff]
 refine zu hS3 hW (by simp only [B0,reduceIte,reduceEqDiff]) (fun h5 hS6=>?_)
 simp only [zp,qr8,qf,qe,qd,qa,qrq,qo7,qt,qb,Nat.reduceAdd,Nat.zero_add,Nat.add_zero,qq,qn,B0,
   reduceIte,reduceEqDiff]
 refine qj (v:=lst Reader.cells r_0.Readers) rfl ?_
 simp only [zo,qb,zr,qd,qa,B0,reduceIte,reduceEqDiff]
 obtain ⟨oc14,hX16,hk17⟩:=jj hF
 simp only [q02]
 refine j8 (σ:=Int × Int) r_0.Readers (fun i12 x13 s71=>qbq k_1 i12 x13 s71.1 s71.2)
   (fun s fr' h'=>fr' 1 = .int .i64 k_1∧fr' 2 = .ref [.int .i64 r_0.Generation,lst Reader.cells r_0.Readers,lst cI r_0.Committed,
   lst cI r_0.Ends] 0∧fr' 5 = .int .i64 s.1∧fr' 6 = .int .i64 s.2∧fr' 12=lst Reader.cells r_0.Readers∧Sep h' (geL h.length) ([])) hX16 ⟨zf1,rfl,rfl,rfl,rfl,
   hS6⟩ (by simp only [B0,reduceIte,reduceEqDiff]) (by simp only [B0,reduceIte,
   reduceEqDiff]) (fun _ _ _ h=>h) rfl rfl (fun _ _ _ _ h=>h) (fun _ _ _ _ h=>h) (fun _ _ _ _ h=>h) (by decide) ?_ ?_
 ·rintro i12 x13 ⟨s10,s11⟩ fr26 h27 hx34 ⟨f29,f30,f31,f32,f33,hS28⟩ f35 f36 oc15 hF18 hr19 Q20 hN21 hB25 hK22 hR23 hE24
  dsimp only at *
  unfold qbq at hF18
  simp only [qxq,qf,qe,f35,qd,f33,jo,B0,reduceIte,reduceEqDiff]
  refine qj (v := .ref (Reader.cells x13) 0) (j7 hx34 rfl) ?_
  simp only [qn,B0,reduceIte,reduceEqDiff]
  refine qj (v := .agg [.bool x13.In,.int .i64 x13.Generation,lst cI x13.Share,lst cI x13.Read]) rfl ?_
  simp only [ja,B0,reduceIte,reduceEqDiff]
  refine zw hS28 (fun b37 h38 hS39=>?_)
  simp only [qd,zn,B0,reduceIte,reduceEqDiff]
  refine zd (us:=[.bool x13.In,.int .i64 x13.Generation,lst cI x13.Share,lst cI x13.Read]) rfl (cs':=[.bool x13.In,.int .i64 x13.Generation,lst cI x13.Share,
    lst cI x13.Read]) hS39 hW rfl rfl (Nat.le_of_ble_eq_true rfl) rfl (fun h41 hS42=>?_)
  simp only [qa,B0,reduceIte,reduceEqDiff]
  refine zu hS42 hW (by simp only [B0,reduceIte,reduceEqDiff]) (fun h43 hS44=>?_)
  simp only [zp,qxb,qf,qe,qd,f29,q9,qb,yx,qa,qy2,za,B0,reduceIte,reduceEqDiff]
  obtain ⟨s45,hX47,hk48⟩:=qh hF18
  refine qbs (t:=(decide ((i12:Int)=k_1))) (fun fr' h'=>fr' 1 = .int .i64 k_1∧fr' 2 = .ref [.int .i64 r_0.Generation,lst Reader.cells r_0.Readers,
    lst cI r_0.Committed,lst cI r_0.Ends] 0∧fr' 5 = .int .i64 s10∧fr' 6 = .int .i64 s45∧fr' 8 = .ref [.bool x13.In,.int .i64 x13.Generation,lst cI x13.Share,
    lst cI x13.Read] 0∧fr' 12=lst Reader.cells r_0.Readers∧fr' 13 = .int .i64 (List.length r_0.Readers:Int)∧fr' 14 = .int .i64 (i12:Int)∧Sep h' (geL h.length)
    ([])) (fun Q49 hN50 hR51 hE52=>⟨fun hc53=>?_,fun hc53=>?_⟩) ?_
  ·rw [iteT hc53] at hX47
   simp only [qe,f31,qd,qa,qm,B0,reduceIte,reduceEqDiff]
   have e54:=qg hX47
   subst e54
   exact hN50 _ _ ⟨f29,f30,f31,rfl,rfl,f33,f36,f35,hS44⟩
  ·rw [iteF hc53] at hX47
   simp only [zh,qm,B0,reduceIte,reduceEqDiff]
   have e55:=qg hX47
   subst e55
   exact hN50 _ _ ⟨f29,f30,f31,f32,rfl,f33,f36,f35,hS44⟩
  rintro fr56 h57 ⟨f59,f60,f61,f62,f63,f64,f65,f66,hS58⟩
  unfold qc9 at hk48
  simp only [qv3,qf,qe,f63,qt,qb,Nat.reduceAdd,Nat.zero_add,Nat.add_zero,qq,qn,B0,reduceIte,reduceEqDiff]
  refine qj (v := .bool x13.In) rfl ?_
  simp only [qa,qw0,za,B0,reduceIte,reduceEqDiff]
  refine qz (t:=x13.In) (fun hc67=>?_) (fun hc67=>?_)
  ·rw [iteT hc67] at hk48
   simp only [qe,f61,qd,q9,qb,u0,qa,qm,B0,reduceIte,reduceEqDiff]
   have e68:=qg hk48
   exact hN21 _ _ _ e68.symm ⟨f59,f60,rfl,f62,f64,hS58⟩ (f66) (f65)
  rw [iteF hc67] at hk48
  simp only [zh,qm,B0,reduceIte,reduceEqDiff]
  have e69:=qg hk48
  exact hN21 _ _ _ e69.symm ⟨f59,f60,f61,f62,f64,hS58⟩ (f66) (f65)
 rintro ⟨s72,s73⟩ fr74 h75 rfl ⟨f77,f78,f79,f80,f81,hS76⟩
 dsimp only [jnO] at hk17
 dsimp only at *
 unfold qdd at hk17
 simp only [qop,qf,qe,qd,qa,qq2,f78,qt,qb,Nat.reduceAdd,Nat.zero_add,Nat.add_zero,qq,qn,B0,reduceIte,reduceEqDiff]
 refine qj (v:=lst cI r_0.Ends) rfl ?_
 simp only [zo,qb,zr,qd,qa,B0,reduceIte,reduceEqDiff]
 obtain ⟨oc94,hX96,hk97⟩:=jj hk17
 simp only [qqy]
 refine qbr (σ:=(List Int)) (fun i92 s153=>qbm s72 s73 i92 s153) (fun s fr' h'=>∃ v89 c90,
   fr' 5 = .int .i64 s72∧fr' 6 = .int .i64 s73∧fr' 9=v89∧SlF cI 1 3 v89 s c90∧Sep h' (geL h.length) (c90++([]))) hX96 ⟨.nil,[],f79,f80,rfl,SlF.nil,
   (hS76:Sep _ (geL h.length) ([]))⟩ (by simp only [B0,reduceIte,reduceEqDiff]) (by simp only [B0,reduceIte,
   reduceEqDiff]) (fun _ _ _ h=>h) rfl rfl (fun _ _ _ _ h=>h) (fun _ _ _ _ h=>h) (fun _ _ _ _ h=>h) (by decide) ?_ ?_
 ·rintro i92 s87 fr106 h107 hx112 ⟨v89,c90,f109,f110,f111,hv91,hS108⟩ f113 f114 oc95 hF98 hr99 Q100 hN101 hB105 hK102 hR103 hE104
  unfold qbm at hF98
  simp only [qo9,qf,qe,f113,qd,qa,qos,f109,q9,qb,qe3,B0,reduceIte,reduceEqDiff]
  obtain ⟨v118,hx119,hF120⟩:=qh hF98
  refine z4 6 (fun fr' h'=>Sep h' (geL h.length) (c90++([]))∧fr' 42 = .bool v118∧fr' 5 = .int .i64 s72∧fr' 6 = .int .i64 s73∧fr' 9=v89∧fr' 10 = .int .i64
    (i92:Int)∧fr' 30 = .int .i64 (List.length r_0.Ends:Int)∧fr' 31 = .int .i64 (i92:Int)) (fun Q115 hN116=>?_) ?_
  ·simp only [List.take_succ_cons,List.take_zero]
   simp only [qc (g:=36),B0,reduceIte,reduceEqDiff]
   refine q8 (t:=(decide ((0:Int)<s72))) (fun hg117=>?_) (fun hg117=>?_)
   ·rw [iteT hg117] at hx119
    obtain ⟨hp121,hF122⟩:=qh8 hx119
    simp only [hg117,qc (g:=36),zf,qd,f109,q9,qb,qif (n:=s72) hp121,f110,yx,qr,zk,qa,qm,B0,
      reduceIte,reduceEqDiff]
    have e123:=qg hF122
    exact hN116 _ _ ⟨hS108,by rw [←e123]; simp only [B0,reduceIte,reduceEqDiff],f109,f110,f111,rfl,f114,f113⟩
   ·rw [iteF hg117] at hx119
    simp only [hg117,qc (g:=36),jh,qr,qb,zj,qa,qm,B0,reduceIte,reduceEqDiff]
    have e124:=qg hx119
    exact hN116 _ _ ⟨hS108,by rw [←e124]; simp only [B0,reduceIte,reduceEqDiff],f109,f110,f111,rfl,f114,f113⟩
  rintro fr125 h133 ⟨hS134,f126,f127,f128,f129,f130,f131,f132⟩
  simp only [List.drop_succ_cons,List.drop_zero]
  simp only [qa,qwi,f126,za,B0,reduceIte,reduceEqDiff]
  refine qz (t:=v118) (fun hc135=>?_) (fun hc135=>?_)
  ·rw [iteT hc135] at hF120
   simp only [qzf,qe,f129,qd,f130,kf,evp,B0,reduceIte,reduceEqDiff]
   refine ju (n:=1) (f:=cI) [(i92:Int)] hS134 rfl rfl (fun v136 c137 h138 hv139 hS140=>?_)
   simp only [qal,B0,reduceIte,reduceEqDiff]
   obtain ⟨l142,hx143,hF144⟩:=qh hF120
   refine xq (f:=cI) hv91 (Sep.m1 hS140) hW (fun _=>rfl) (fun _=>rfl) (SlF.first hv139 hS140 (fun _=>rfl)) hx143 (fun v145 c146 h147 hv148 hS149=>?_)
   simp only [qd,qa,qm,B0,reduceIte,reduceEqDiff]
   have e151:=qg hF144
   exact hN101 _ _ _ e151.symm ⟨v145,c146,f127,f128,rfl,hv148,(Sep.dc (Sep.m1 hS149))⟩ (f132) (f131)
  rw [iteF hc135] at hF120
  simp only [zh,qm,B0,reduceIte,reduceEqDiff]
  have e152:=qg hF120
  exact hN101 _ _ _ e152.symm ⟨v89,c90,f127,f128,f129,hv91,hS134⟩ (f132) (f131)
 rintro s154 fr159 h160 rfl ⟨v156,c157,f162,f163,f164,hv158,hS161⟩
 dsimp only [jnO] at hk97
 unfold qfm at hk97
 simp only [qf,qe,f164,qd,qa,qx,B0,reduceIte,reduceEqDiff]
 have he:=qg hk97
 subst he
 simp only [zi,B0,reduceIte,reduceEqDiff]
 exact ⟨v156,c157,by first | trivial | rfl,hv158,hS161⟩
theorem qch {W:Nat→Bool}{h:Heap} (hW:∀ b,
  (geL h.length) b→W b=true) (l_0:List Int) (n_1:Int) (r:Bool) (hF:ul l_0 n_1=some r) : Ret E W 74 [lst cI l_0,
  .int .i64 n_1] h (fun v h'=>cut h.length h' E.sz false 9 v=some (.bool r)):=by
 refine Ret.of (fn:=x74) rfl (Run.of ?_)
 unfold ul at hF
 have zf0:zb [lst cI l_0,.int .i64 n_1] 0=lst cI l_0:=rfl
 have zf1:zb [lst cI l_0,.int .i64 n_1] 1 = .int .i64 n_1:=rfl
 generalize zb [lst cI l_0,.int .i64 n_1]=fr0 at zf0 zf1 ⊢
 have hS:Sep h (geL h.length) []:=Sep.nil h
 simp only [x74,qf,qe,qd,qa,qv4,zf0,zo,qb,zr,B0,reduceIte,reduceEqDiff]
 obtain ⟨oc3,hX5,hk6⟩:=jj hF
 simp only [qz1]
 refine j8 (σ:=Unit) l_0 (fun i1 x2 _=>qc5 n_1 i1 x2 ) (fun s fr' h'=>fr' 1 = .int .i64 n_1∧fr' 7=lst cI l_0∧Sep h' (geL h.length) ([])) hX5 ⟨zf1,
   rfl,hS⟩ (by simp only [B0,reduceIte,reduceEqDiff]) (by simp only [B0,reduceIte,
   reduceEqDiff]) (fun _ _ _ h=>h) rfl rfl (fun _ _ _ _ h=>h) (fun _ _ _ _ h=>h) (fun _ _ _ _ h=>h) (by decide) ?_ ?_
 ·rintro i1 x2 _ fr15 h16 hx20 ⟨f18,f19,hS17⟩ f21 f22 oc4 hF7 hr8 Q9 hN10 hB14 hK11 hR12 hE13
  unfold qc5 at hF7
  simp only [q14,qf,qe,f19,f21,jo,B0,reduceIte,reduceEqDiff]
  refine qj (v := .ref (cI x2) 0) (j7 hx20 rfl) ?_
  simp only [qn,B0,reduceIte,reduceEqDiff]
  refine qj (v := .int .i64 x2) rfl ?_
  simp only [qd,qa,q1p,qf,qe,f18,q9,qb,yx,za,B0,reduceIte,reduceEqDiff]
  refine qz (t:=(decide (x2=n_1))) (fun hc23=>?_) (fun hc23=>?_)
  ·rw [iteT hc23] at hF7
   simp only [qf,qe,qd,qa,qx,B0,reduceIte,reduceEqDiff]
   have e24:=qg hF7
   subst e24
   have ho25:=hr8 _ rfl
   have hk26:=hk6
   rw [ho25] at hk26
   dsimp only [jnO] at hk26
   apply hR12
   have he:=qg hk26
   subst he
   simp only [zi,B0,reduceIte,reduceEqDiff]
   exact rfl
  rw [iteF hc23] at hF7
  simp only [zh,qm,B0,reduceIte,reduceEqDiff]
  have e27:=qg hF7
  exact hN10 _ _ _ e27.symm ⟨f18,f19,hS17⟩ (f21) (f22)
 rintro _ fr29 h30 rfl ⟨f32,f33,hS31⟩
 dsimp only [jnO] at hk6
 unfold qhh at hk6
 simp only [qf,qe,qd,qa,qx,B0,reduceIte,reduceEqDiff]
 have he:=qg hk6
 subst he
 simp only [zi,B0,reduceIte,reduceEqDiff]
 exact rfl
theorem qj6 {W:Nat→Bool}{h:Heap} (hW:∀ b,
  (geL h.length) b→W b=true) (l_0:List Int) (many_1:Int) (r:Bool) (hF:qcf l_0 many_1=some r) : Ret E W 87 [lst cI l_0,
  .int .i64 many_1] h (fun v h'=>cut h.length h' E.sz false 9 v=some (.bool r)):=by
 refine Ret.of (fn:=x87) rfl (Run.of ?_)
 unfold qcf at hF
 have zf0:zb [lst cI l_0,.int .i64 many_1] 0=lst cI l_0:=rfl
 have zf1:zb [lst cI l_0,.int .i64 many_1] 1 = .int .i64 many_1:=rfl
 generalize zb [lst cI l_0,.int .i64 many_1]=fr0 at zf0 zf1 ⊢
 have hS:Sep h (geL h.length) []:=Sep.nil h
 simp only [x87,qf,qe,qd,qa,qwn,zf0,zo,qb,zr,B0,reduceIte,reduceEqDiff]
 obtain ⟨oc3,hX5,hk6⟩:=jj hF
 simp only [qxa]
 refine j8 (σ:=Unit) l_0 (fun i1 x2 _=>qb3 l_0 many_1 i1 x2 ) (fun s fr' h'=>fr' 0=lst cI l_0∧fr' 1 = .int .i64 many_1∧fr' 7=lst cI l_0∧Sep h'
   (geL h.length) ([])) hX5 ⟨zf0,zf1,rfl,hS⟩ (by simp only [B0,reduceIte,reduceEqDiff]) (by simp only [B0,reduceIte,
   reduceEqDiff]) (fun _ _ _ h=>h) rfl rfl (fun _ _ _ _ h=>h) (fun _ _ _ _ h=>h) (fun _ _ _ _ h=>h) (by decide) ?_ ?_
 ·rintro i1 x2 _ fr15 h16 hx21 ⟨f18,f19,f20,hS17⟩ f22 f23 oc4 hF7 hr8 Q9 hN10 hB14 hK11 hR12 hE13
  unfold qb3 at hF7
  simp only [qvf,qf,qe,f22,qd,f20,jo,B0,reduceIte,reduceEqDiff]
  refine qj (v := .ref (cI x2) 0) (j7 hx21 rfl) ?_
  simp only [qn,B0,reduceIte,reduceEqDiff]
  refine qj (v := .int .i64 x2) rfl ?_
  simp only [qd,qa,qvx,qf,qe,q9,qb,qeb,B0,reduceIte,reduceEqDiff]
  refine z4 4 (fun fr' h'=>Sep h' (geL h.length) ([])∧fr' 20 = .bool ((decide (x2<0))||(decide
    (many_1≤x2)))∧fr' 0=lst cI l_0∧fr' 1 = .int .i64 many_1∧fr' 5 = .int .i64 (i1:Int)∧fr' 6 = .int .i64 x2∧fr' 7=lst cI l_0∧fr' 8 = .int .i64
    (List.length l_0:Int)∧fr' 9 = .int .i64 (i1:Int)) (fun Q24 hN25=>?_) ?_
  ·simp only [List.take_succ_cons,List.take_zero]
   simp only [qc (g:=16),B0,reduceIte,reduceEqDiff]
   refine q8 (t:=(decide (x2<0))) (fun hg26=>?_) (fun hg26=>?_)
   ·simp only [hg26,qc (g:=16),zy,qr,qb,zk,qa,qm,B0,reduceIte,reduceEqDiff]
    exact hN25 _ _ ⟨hS17,by rw [orT hg26]; simp only [B0,reduceIte,reduceEqDiff],f18,f19,rfl,rfl,f20,f23,f22⟩
   ·simp only [hg26,qc (g:=16),qo,qd,f19,q9,qb,qd5,qr,zj,qa,qm,B0,reduceIte,reduceEqDiff]
    exact hN25 _ _ ⟨hS17,by rw [orF hg26]; simp only [B0,reduceIte,reduceEqDiff],f18,f19,rfl,rfl,f20,f23,f22⟩
  rintro fr27 h36 ⟨hS37,f28,f29,f30,f31,f32,f33,f34,f35⟩
  simp only [List.drop_succ_cons,List.drop_zero]
  simp only [f28,qd,B0,reduceIte,reduceEqDiff]
  obtain ⟨v41,hx42,hF43⟩:=qh hF7
  refine z4 12 (fun fr' h'=>Sep h' (geL h.length) ([])∧fr' 33 = .bool v41∧fr' 0=lst cI l_0∧fr' 1 = .int .i64 many_1∧fr' 7=lst cI l_0∧fr' 8 = .int .i64
    (List.length l_0:Int)∧fr' 9 = .int .i64 (i1:Int)) (fun Q38 hN39=>?_) ?_
  ·simp only [List.take_succ_cons,List.take_zero]
   simp only [qc (g:=21),B0,reduceIte,reduceEqDiff]
   refine q8 (t:=((decide (x2<0))||(decide (many_1≤x2)))) (fun hg40=>?_) (fun hg40=>?_)
   ·rw [iteT hg40] at hx42
    simp only [hg40,qc (g:=21),zy,qc (g:=24),uq,qr,qb,zk,qa,qm,B0,reduceIte,reduceEqDiff]
    have e44:=qg hx42
    exact hN39 _ _ ⟨hS37,by rw [←e44]; simp only [B0,reduceIte,reduceEqDiff],f29,f30,f33,f34,f35⟩
   ·rw [iteF hg40] at hx42
    simp only [hg40,qc (g:=21),qo,f31,qd,q9,qb,qe3,B0,reduceIte,reduceEqDiff]
    obtain ⟨v48,hx49,hF50⟩:=qh hx42
    refine z4 8 (fun fr' h'=>Sep h' (geL h.length) ([])∧fr' 32 = .bool v48∧fr' 0=lst cI l_0∧fr' 1 = .int .i64 many_1∧fr' 7=lst cI l_0∧fr' 8 = .int .i64
      (List.length l_0:Int)∧fr' 9 = .int .i64 (i1:Int)∧fr' 21 = .bool ((decide (x2<0))||(decide (many_1≤x2)))) (fun Q45 hN46=>?_) ?_
    ·simp only [List.take_succ_cons,List.take_zero]
     simp only [qc (g:=24),B0,reduceIte,reduceEqDiff]
     refine q8 (t:=(decide ((0:Int)<(i1:Int)))) (fun hg47=>?_) (fun hg47=>?_)
     ·rw [iteT hg47] at hx49
      obtain ⟨x51,hx52,hF53⟩:=qh hx49
      simp only [hg47,qc (g:=24),zf,f29,qd,f31,q9,qb,qdm,jo,B0,reduceIte,reduceEqDiff]
      refine qj (v := .ref (cI x51) 0) (wu hx52 rfl) ?_
      simp only [hg47,qc (g:=24),zf,qn,B0,reduceIte,reduceEqDiff]
      refine qj (v := .int .i64 x51) rfl ?_
      simp only [hg47,qc (g:=24),zf,f32,qd,q9,qb,qd5,hg40,qc (g:=21),qo,qr,zk,qa,
        qm,B0,reduceIte,reduceEqDiff]
      have e54:=qg hF53
      exact hN46 _ _ ⟨hS37,by rw [←e54]; simp only [B0,reduceIte,reduceEqDiff],f29,f30,f33,f34,f35,by simp only [hg40,B0,reduceIte,reduceEqDiff]⟩
     ·rw [iteF hg47] at hx49
      simp only [hg47,qc (g:=24),jh,hg40,qc (g:=21),qo,qr,qb,zj,qa,qm,B0,reduceIte,
        reduceEqDiff]
      have e55:=qg hx49
      exact hN46 _ _ ⟨hS37,by rw [←e55]; simp only [B0,reduceIte,reduceEqDiff],f29,f30,f33,f34,f35,by simp only [hg40,B0,reduceIte,reduceEqDiff]⟩
    rintro fr56 h64 ⟨hS65,f57,f58,f59,f60,f61,f62,f63⟩
    simp only [List.drop_succ_cons,List.drop_zero]
    simp only [f63,hg40,qr,qb,zj,f57,qa,qm,B0,reduceIte,reduceEqDiff]
    have e66:=qg hF50
    exact hN39 _ _ ⟨hS65,by rw [←e66]; simp only [B0,reduceIte,reduceEqDiff],f58,f59,f60,f61,f62⟩
  rintro fr67 h74 ⟨hS75,f68,f69,f70,f71,f72,f73⟩
  simp only [List.drop_succ_cons,List.drop_zero]
  simp only [qa,f68,za,B0,reduceIte,reduceEqDiff]
  refine qz (t:=v41) (fun hc76=>?_) (fun hc76=>?_)
  ·rw [iteT hc76] at hF43
   simp only [qf,qe,qd,qa,qx,B0,reduceIte,reduceEqDiff]
   have e77:=qg hF43
   subst e77
   have ho78:=hr8 _ rfl
   have hk79:=hk6
   rw [ho78] at hk79
   dsimp only [jnO] at hk79
   apply hR12
   have he:=qg hk79
   subst he
   simp only [zi,B0,reduceIte,reduceEqDiff]
   exact rfl
  rw [iteF hc76] at hF43
  simp only [zh,qm,B0,reduceIte,reduceEqDiff]
  have e80:=qg hF43
  exact hN10 _ _ _ e80.symm ⟨f69,f70,f71,hS75⟩ (f73) (f72)
 rintro _ fr82 h83 rfl ⟨f85,f86,f87,hS84⟩
 dsimp only [jnO] at hk6
 unfold qf4 at hk6
 simp only [qf,qe,qd,qa,qx,B0,reduceIte,reduceEqDiff]
 have he:=qg hk6
 subst he
 simp only [zi,B0,reduceIte,reduceEqDiff]
 exact rfl
theorem qlp {W:Nat→Bool}{h:Heap} (hW:∀ b,
  (geL h.length) b→W b=true) (a_0:List Int) (b_1:List Int) (r:Bool) (hF:qfc a_0 b_1=some r) : Ret E W 90 [lst cI a_0,
  lst cI b_1] h (fun v h'=>cut h.length h' E.sz false 9 v=some (.bool r)):=by
 refine Ret.of (fn:=x90) rfl (Run.of ?_)
 unfold qfc at hF
 have zf0:zb [lst cI a_0,lst cI b_1] 0=lst cI a_0:=rfl
 have zf1:zb [lst cI a_0,lst cI b_1] 1=lst cI b_1:=rfl
 generalize zb [lst cI a_0,lst cI b_1]=fr0 at zf0 zf1 ⊢
 have hS:Sep h (geL h.length) []:=Sep.nil h
 simp only [x90,qf,qe,qd,qa,qu0,zf1,zo,qb,zr,B0,reduceIte,reduceEqDiff]
 obtain ⟨oc3,hX5,hk6⟩:=jj hF
 simp only [q0h]
 refine j8 (σ:=Unit) b_1 (fun i1 x2 _=>qc6 a_0 i1 x2 ) (fun s fr' h'=>fr' 0=lst cI a_0∧fr' 7=lst cI b_1∧Sep h' (geL h.length) ([])) hX5 ⟨zf0,rfl,
   hS⟩ (by simp only [B0,reduceIte,reduceEqDiff]) (by simp only [B0,reduceIte,
   reduceEqDiff]) (fun _ _ _ h=>h) rfl rfl (fun _ _ _ _ h=>h) (fun _ _ _ _ h=>h) (fun _ _ _ _ h=>h) (by decide) ?_ ?_
 ·rintro i1 x2 _ fr15 h16 hx20 ⟨f18,f19,hS17⟩ f21 f22 oc4 hF7 hr8 Q9 hN10 hB14 hK11 hR12 hE13
  unfold qc6 at hF7
  simp only [qv0,qf,qe,f19,f21,jo,B0,reduceIte,reduceEqDiff]
  refine qj (v := .ref (cI x2) 0) (j7 hx20 rfl) ?_
  simp only [qn,B0,reduceIte,reduceEqDiff]
  refine qj (v := .int .i64 x2) rfl ?_
  obtain ⟨v23,hx24,hF25⟩:=qh hF7
  simp only [qd,qa,q08,qf,qe,f18,qw,B0,reduceIte,reduceEqDiff]
  refine je rfl (qi ze (qi qs qy)) (qch (fun b hb=>decide_eq_true hb) a_0 x2 v23 hx24) ?_
  simp only [jf,qb,jt,qa,za,B0,reduceIte,reduceEqDiff]
  refine qz (t:=(!v23)) (fun hc26=>?_) (fun hc26=>?_)
  ·rw [iteT hc26] at hF25
   simp only [qf,qe,qd,qa,qx,B0,reduceIte,reduceEqDiff]
   have e27:=qg hF25
   subst e27
   have ho28:=hr8 _ rfl
   have hk29:=hk6
   rw [ho28] at hk29
   dsimp only [jnO] at hk29
   apply hR12
   have he:=qg hk29
   subst he
   simp only [zi,B0,reduceIte,reduceEqDiff]
   exact rfl
  rw [iteF hc26] at hF25
  simp only [zh,qm,B0,reduceIte,reduceEqDiff]
  have e30:=qg hF25
  exact hN10 _ _ _ e30.symm ⟨f18,f19,hS17⟩ (f21) (f22)
 rintro _ fr32 h33 rfl ⟨f35,f36,hS34⟩
 dsimp only [jnO] at hk6
 unfold qhi at hk6
 simp only [qf,qe,qd,qa,qx,B0,reduceIte,reduceEqDiff]
 have he:=qg hk6
 subst he
 simp only [zi,B0,reduceIte,reduceEqDiff]
 exact rfl
theorem qj8 {W:Nat→Bool}{h:Heap} (hW:∀ b,
  (geL h.length) b→W b=true) (a_0:List Int) (b_1:List Int) (r:Bool) (hF:qb7 a_0 b_1=some r) : Ret E W 88 [lst cI a_0,
  lst cI b_1] h (fun v h'=>cut h.length h' E.sz false 9 v=some (.bool r)):=by
 refine Ret.of (fn:=x88) rfl (Run.of ?_)
 unfold qb7 at hF
 have zf0:zb [lst cI a_0,lst cI b_1] 0=lst cI a_0:=rfl
 have zf1:zb [lst cI a_0,lst cI b_1] 1=lst cI b_1:=rfl
 generalize zb [lst cI a_0,lst cI b_1]=fr0 at zf0 zf1 ⊢
 have hS:Sep h (geL h.length) []:=Sep.nil h
 obtain ⟨v1,hx2,hF3⟩:=qh hF
 simp only [x88,qf,qe,qd,qa,qzg,zf0,zf1,qw,B0,reduceIte,reduceEqDiff]
 refine je rfl (qi ze (qi ze qy)) (qlp (fun b hb=>decide_eq_true hb) a_0 b_1 v1 hx2) ?_
 simp only [qd,B0,reduceIte,reduceEqDiff]
 refine z4 6 (fun fr' h'=>Sep h' (geL h.length) ([])∧fr' 14 = .bool (v1&&(decide ((List.length a_0:Int)=(List.length b_1:Int))))) (fun Q4 hN5=>?_) ?_
 ·simp only [List.take_succ_cons,List.take_zero]
  simp only [qc (g:=8),B0,reduceIte,reduceEqDiff]
  refine q8 (t:=v1) (fun hg6=>?_) (fun hg6=>?_)
  ·simp only [hg6,qc (g:=8),zf,zf0,qd,zo,qb,zr,zf1,q9,yx,qr,zk,qa,qm,B0,reduceIte,
    reduceEqDiff]
   exact hN5 _ _ ⟨hS,by rw [xj hg6]; simp only [B0,reduceIte,reduceEqDiff]⟩
  ·simp only [hg6,qc (g:=8),jh,qr,qb,zj,qa,qm,B0,reduceIte,reduceEqDiff]
   exact hN5 _ _ ⟨hS,by rw [xy hg6]; simp only [B0,reduceIte,reduceEqDiff]⟩
 rintro fr7 h9 ⟨hS10,f8⟩
 simp only [List.drop_succ_cons,List.drop_zero]
 simp only [f8,qd,qa,qx,B0,reduceIte,reduceEqDiff]
 have he:=qg hF3
 subst he
 simp only [zi,B0,reduceIte,reduceEqDiff]
 exact rfl
end Go.Proofs.Ytdhibknhejhfaaa.X
namespace Go.Proofs.Ytdhibknhejhfaaa.X
open Go
open Nat (reduceEqDiff)
theorem qi4 {W:Nat→Bool}{h:Heap} (hW:∀ b,
  (geL h.length) b→W b=true) (v_0:Readers_) (v_1:Int) (r:Bool) (hF:qbb v_0 v_1=some r) : Ret E W 70 [.agg [.int .i64 v_0.Generation,
  lst Reader.cells v_0.Readers,lst cI v_0.Committed,lst cI v_0.Ends],.int .i64 v_1] h (fun v h'=>cut h.length h' E.sz false 9 v=some (.bool r)):=by
 refine Ret.of (fn:=x70) rfl (Run.of ?_)
 unfold qbb at hF
 have zf0:zb [.agg [.int .i64 v_0.Generation,lst Reader.cells v_0.Readers,lst cI v_0.Committed,lst cI v_0.Ends],.int .i64 v_1] 0 = .agg [.int .i64 v_0.Generation,
   lst Reader.cells v_0.Readers,lst cI v_0.Committed,lst cI v_0.Ends]:=rfl
 have zf1:zb [.agg [.int .i64 v_0.Generation,lst Reader.cells v_0.Readers,lst cI v_0.Committed,lst cI v_0.Ends],.int .i64 v_1] 1 = .int .i64 v_1:=rfl
 generalize zb [.agg [.int .i64 v_0.Generation,lst Reader.cells v_0.Readers,lst cI v_0.Committed,lst cI v_0.Ends],.int .i64 v_1]=fr0 at zf0 zf1 ⊢
 have hS:Sep h (geL h.length) []:=Sep.nil h
 simp only [x70,qf,qe,jy,zf0,B0,reduceIte,reduceEqDiff]
 refine jk (cs:=[.int .i64 v_0.Generation,lst Reader.cells v_0.Readers,lst cI v_0.Committed,lst cI v_0.Ends]) hS rfl rfl rfl (fun b1 h2 hS3=>?_)
 simp only [qd,qa,B0,reduceIte,reduceEqDiff]
 refine zu hS3 hW (by simp only [B0,reduceIte,reduceEqDiff]) (fun h5 hS6=>?_)
 simp only [zp,qya,qf,qe,qt,qb,Nat.reduceAdd,Nat.zero_add,Nat.add_zero,qq,qn,B0,reduceIte,reduceEqDiff]
 refine qj (v:=lst Reader.cells v_0.Readers) rfl ?_
 obtain ⟨x7,hx8,hF9⟩:=qh hF
 simp only [zf1,qd,jo,B0,reduceIte,reduceEqDiff]
 refine qj (v := .ref (Reader.cells x7) 0) (wu hx8 rfl) ?_
 simp only [qn,B0,reduceIte,reduceEqDiff]
 refine qj (v := .agg [.bool x7.In,.int .i64 x7.Generation,lst cI x7.Share,lst cI x7.Read]) rfl ?_
 simp only [ja,B0,reduceIte,reduceEqDiff]
 refine zw hS6 (fun b10 h11 hS12=>?_)
 simp only [zn,B0,reduceIte,reduceEqDiff]
 refine zd (us:=[.bool x7.In,.int .i64 x7.Generation,lst cI x7.Share,lst cI x7.Read]) rfl (cs':=[.bool x7.In,.int .i64 x7.Generation,lst cI x7.Share,
   lst cI x7.Read]) hS12 hW rfl rfl (Nat.le_of_ble_eq_true rfl) rfl (fun h14 hS15=>?_)
 simp only [qa,B0,reduceIte,reduceEqDiff]
 refine zu hS15 hW (by simp only [B0,reduceIte,reduceEqDiff]) (fun h16 hS17=>?_)
 simp only [zp,q19,qf,qe,qt,qb,Nat.reduceAdd,Nat.zero_add,Nat.add_zero,qq,qn,B0,reduceIte,reduceEqDiff]
 refine qj (v := .int .i64 x7.Generation) rfl ?_
 simp only [qt,qb,Nat.reduceAdd,Nat.zero_add,Nat.add_zero,qq,qn,B0,reduceIte,reduceEqDiff]
 refine qj (v := .int .i64 v_0.Generation) rfl ?_
 simp only [qw,B0,reduceIte,reduceEqDiff]
 refine je rfl (qi qs (qi qs (qi qs qy))) (wm (fun b hb=>decide_eq_true hb) x7.Generation 0 v_0.Generation _ rfl) ?_
 simp only [jf,qb,jt,qd,B0,reduceIte,reduceEqDiff]
 obtain ⟨v21,hx22,hF23⟩:=qh hF9
 refine z4 8 (fun fr' h'=>Sep h' (geL h.length) ([])∧fr' 27 = .bool v21∧fr' 1 = .int .i64 v_1∧fr' 2 = .ref [.int .i64 v_0.Generation,lst Reader.cells v_0.Readers,
   lst cI v_0.Committed,lst cI v_0.Ends] 0∧fr' 5 = .ref [.bool x7.In,.int .i64 x7.Generation,lst cI x7.Share,lst cI x7.Read] 0) (fun Q18 hN19=>?_) ?_
 ·simp only [List.take_succ_cons,List.take_zero]
  simp only [qc (g:=19),B0,reduceIte,reduceEqDiff]
  refine q8 (t:=(!(zx x7.Generation 0 v_0.Generation))) (fun hg20=>?_) (fun hg20=>?_)
  ·rw [iteT hg20] at hx22
   simp only [hg20,qc (g:=19),zy,qr,qb,zk,qa,qm,B0,reduceIte,reduceEqDiff]
   have e24:=qg hx22
   exact hN19 _ _ ⟨hS17,by rw [←e24]; simp only [B0,reduceIte,reduceEqDiff],zf1,rfl,rfl⟩
  ·rw [iteF hg20] at hx22
   simp only [hg20,qc (g:=19),qo,qt,qb,Nat.reduceAdd,Nat.zero_add,Nat.add_zero,qq,qn,B0,reduceIte,reduceEqDiff]
   refine qj (v:=lst cI x7.Share) rfl ?_
   simp only [hg20,qc (g:=19),qo,qt,qb,Nat.reduceAdd,Nat.zero_add,Nat.add_zero,qq,qn,B0,reduceIte,reduceEqDiff]
   refine qj (v:=lst cI v_0.Ends) rfl ?_
   obtain ⟨v25,hx26,hF27⟩:=qh hx22
   simp only [hg20,qc (g:=19),qo,zo,qb,zr,qw,B0,reduceIte,reduceEqDiff]
   refine je rfl (qi ze (qi qs qy)) (qj6 (fun b hb=>decide_eq_true hb) x7.Share (List.length v_0.Ends:Int) v25 hx26) ?_
   simp only [hg20,qc (g:=19),qo,jf,qb,jt,qr,zj,qa,qm,B0,reduceIte,reduceEqDiff]
   have e28:=qg hF27
   exact hN19 _ _ ⟨hS17,by rw [←e28]; simp only [B0,reduceIte,reduceEqDiff],zf1,rfl,rfl⟩
 rintro fr29 h34 ⟨hS35,f30,f31,f32,f33⟩
 simp only [List.drop_succ_cons,List.drop_zero]
 simp only [f30,qd,B0,reduceIte,reduceEqDiff]
 refine z4 8 (fun fr' h'=>Sep h' (geL h.length) ([])∧fr' 36 = .bool (v21||(decide ((List.length x7.Read:Int) ≠
   (List.length v_0.Ends:Int))))∧fr' 1 = .int .i64 v_1∧fr' 2 = .ref [.int .i64 v_0.Generation,lst Reader.cells v_0.Readers,lst cI v_0.Committed,
   lst cI v_0.Ends] 0∧fr' 5 = .ref [.bool x7.In,.int .i64 x7.Generation,lst cI x7.Share,lst cI x7.Read] 0) (fun Q36 hN37=>?_) ?_
 ·simp only [List.take_succ_cons,List.take_zero]
  simp only [qc (g:=28),B0,reduceIte,reduceEqDiff]
  refine q8 (t:=v21) (fun hg38=>?_) (fun hg38=>?_)
  ·simp only [hg38,qc (g:=28),zy,qr,qb,zk,qa,qm,B0,reduceIte,reduceEqDiff]
   exact hN37 _ _ ⟨hS35,by rw [orT hg38]; simp only [B0,reduceIte,reduceEqDiff],f31,f32,f33⟩
  ·simp only [hg38,qc (g:=28),qo,f33,qt,qb,Nat.reduceAdd,Nat.zero_add,Nat.add_zero,qq,qn,B0,reduceIte,reduceEqDiff]
   refine qj (v:=lst cI x7.Read) rfl ?_
   simp only [hg38,qc (g:=28),qo,zo,qb,zr,f32,qt,Nat.reduceAdd,Nat.zero_add,Nat.add_zero,qq,qn,B0,reduceIte,
     reduceEqDiff]
   refine qj (v:=lst cI v_0.Ends) rfl ?_
   simp only [hg38,qc (g:=28),qo,zo,qb,zr,q9,wx,qr,zj,qa,qm,B0,reduceIte,reduceEqDiff]
   exact hN37 _ _ ⟨hS35,by rw [orF hg38]; simp only [B0,reduceIte,reduceEqDiff],f31,f32,f33⟩
 rintro fr39 h44 ⟨hS45,f40,f41,f42,f43⟩
 simp only [List.drop_succ_cons,List.drop_zero]
 simp only [f40,qd,B0,reduceIte,reduceEqDiff]
 refine z4 15 (fun fr' h'=>Sep h' (geL h.length) ([])∧fr' 52 = .bool ((v21||(decide ((List.length x7.Read:Int)≠(List.length v_0.Ends:Int))))||((!x7.In) &&
   ((decide (x7.Generation≠0))||(decide ((0:Int)<(List.length x7.Share:Int))))))∧fr' 1 = .int .i64 v_1∧fr' 2 = .ref [.int .i64 v_0.Generation,
   lst Reader.cells v_0.Readers,lst cI v_0.Committed,lst cI v_0.Ends] 0∧fr' 5 = .ref [.bool x7.In,.int .i64 x7.Generation,lst cI x7.Share,
   lst cI x7.Read] 0) (fun Q46 hN47=>?_) ?_
 ·simp only [List.take_succ_cons,List.take_zero]
  simp only [qc (g:=37),B0,reduceIte,reduceEqDiff]
  refine q8 (t:=(v21||(decide ((List.length x7.Read:Int)≠(List.length v_0.Ends:Int))))) (fun hg48=>?_) (fun hg48=>?_)
  ·simp only [hg48,qc (g:=37),zy,qc (g:=41),uq,qc (g:=45),qr,qb,zk,qa,qm,B0,reduceIte,
    reduceEqDiff]
   exact hN47 _ _ ⟨hS45,by rw [orT hg48]; simp only [B0,reduceIte,reduceEqDiff],f41,f42,f43⟩
  ·simp only [hg48,qc (g:=37),qo,f43,qt,qb,Nat.reduceAdd,Nat.zero_add,Nat.add_zero,qq,qn,B0,reduceIte,reduceEqDiff]
   refine qj (v := .bool x7.In) rfl ?_
   simp only [hg48,qc (g:=37),qo,jf,qb,jt,qd,B0,reduceIte,reduceEqDiff]
   refine z4 10 (fun fr' h'=>Sep h' (geL h.length) ([])∧fr' 51 = .bool ((!x7.In)&&((decide (x7.Generation≠0))||(decide ((0:Int) <
     (List.length x7.Share:Int)))))∧fr' 1 = .int .i64 v_1∧fr' 2 = .ref [.int .i64 v_0.Generation,lst Reader.cells v_0.Readers,lst cI v_0.Committed,
     lst cI v_0.Ends] 0∧fr' 5 = .ref [.bool x7.In,.int .i64 x7.Generation,lst cI x7.Share,
     lst cI x7.Read] 0∧fr' 37 = .bool (v21||(decide ((List.length x7.Read:Int)≠(List.length v_0.Ends:Int))))) (fun Q49 hN50=>?_) ?_
   ·simp only [List.take_succ_cons,List.take_zero]
    simp only [qc (g:=41),B0,reduceIte,reduceEqDiff]
    refine q8 (t:=(!x7.In)) (fun hg51=>?_) (fun hg51=>?_)
    ·simp only [hg51,qc (g:=41),zf,f43,qt,qb,Nat.reduceAdd,Nat.zero_add,Nat.add_zero,qq,qn,B0,reduceIte,reduceEqDiff]
     refine qj (v := .int .i64 x7.Generation) rfl ?_
     simp only [hg51,qc (g:=41),zf,q9,qb,wx,qd,B0,reduceIte,reduceEqDiff]
     refine z4 5 (fun fr' h'=>Sep h' (geL h.length) ([])∧fr' 50 = .bool ((decide (x7.Generation≠0))||(decide ((0:Int) <
       (List.length x7.Share:Int))))∧fr' 1 = .int .i64 v_1∧fr' 2 = .ref [.int .i64 v_0.Generation,lst Reader.cells v_0.Readers,lst cI v_0.Committed,
       lst cI v_0.Ends] 0∧fr' 5 = .ref [.bool x7.In,.int .i64 x7.Generation,lst cI x7.Share,
       lst cI x7.Read] 0∧fr' 37 = .bool (v21||(decide ((List.length x7.Read:Int)≠(List.length v_0.Ends:Int))))∧fr' 41 = .bool (!x7.In)) (fun Q52 hN53=>?_) ?_
     ·simp only [List.take_succ_cons,List.take_zero]
      simp only [qc (g:=45),B0,reduceIte,reduceEqDiff]
      refine q8 (t:=(decide (x7.Generation≠0))) (fun hg54=>?_) (fun hg54=>?_)
      ·simp only [hg54,qc (g:=45),zy,hg51,qc (g:=41),zf,qr,qb,zk,qa,qm,B0,reduceIte,
        reduceEqDiff]
       exact hN53 _ _ ⟨hS45,by rw [orT hg54]; simp only [B0,reduceIte,reduceEqDiff],f41,f42,f43,by simp only [hg48,B0,reduceIte,reduceEqDiff],by simp only [hg51,
         B0,reduceIte,reduceEqDiff]⟩
      ·simp only [hg54,qc (g:=45),qo,f43,qt,qb,Nat.reduceAdd,Nat.zero_add,Nat.add_zero,qq,qn,B0,reduceIte,reduceEqDiff]
       refine qj (v:=lst cI x7.Share) rfl ?_
       simp only [hg54,qc (g:=45),qo,zo,qb,zr,q9,qe3,hg51,qc (g:=41),zf,qr,zj,
         qa,qm,B0,reduceIte,reduceEqDiff]
       exact hN53 _ _ ⟨hS45,by rw [orF hg54]; simp only [B0,reduceIte,reduceEqDiff],f41,f42,f43,by simp only [hg48,B0,reduceIte,reduceEqDiff],by simp only [hg51,
         B0,reduceIte,reduceEqDiff]⟩
     rintro fr55 h62 ⟨hS63,f56,f57,f58,f59,f60,f61⟩
     simp only [List.drop_succ_cons,List.drop_zero]
     simp only [f60,hg48,qc (g:=37),qo,f61,hg51,qr,qb,zk,f56,qa,qm,B0,reduceIte,reduceEqDiff]
     exact hN50 _ _ ⟨hS63,by rw [xj hg51]; simp only [B0,reduceIte,reduceEqDiff],f57,f58,f59,by simp only [f60,hg48,B0,reduceIte,reduceEqDiff]⟩
    ·simp only [hg51,qc (g:=41),jh,qc (g:=45),uq,hg48,qc (g:=37),qo,qr,qb,zj,qa,
      qm,B0,reduceIte,reduceEqDiff]
     exact hN50 _ _ ⟨hS45,by rw [xy hg51]; simp only [B0,reduceIte,reduceEqDiff],f41,f42,f43,by simp only [hg48,B0,reduceIte,reduceEqDiff]⟩
   rintro fr64 h70 ⟨hS71,f65,f66,f67,f68,f69⟩
   simp only [List.drop_succ_cons,List.drop_zero]
   simp only [f69,hg48,qr,qb,zj,f65,qa,qm,B0,reduceIte,reduceEqDiff]
   exact hN47 _ _ ⟨hS71,by rw [orF hg48]; simp only [B0,reduceIte,reduceEqDiff],f66,f67,f68⟩
 rintro fr72 h77 ⟨hS78,f73,f74,f75,f76⟩
 simp only [List.drop_succ_cons,List.drop_zero]
 simp only [qa,f73,za,B0,reduceIte,reduceEqDiff]
 refine qz (t:=((v21||(decide ((List.length x7.Read:Int)≠(List.length v_0.Ends:Int))))||((!x7.In)&&((decide (x7.Generation≠0))||(decide ((0:Int) <
   (List.length x7.Share:Int))))))) (fun hc79=>?_) (fun hc79=>?_)
 ·rw [iteT hc79] at hF23
  simp only [qf,qe,qd,qa,qx,B0,reduceIte,reduceEqDiff]
  have he:=qg hF23
  subst he
  simp only [zi,B0,reduceIte,reduceEqDiff]
  exact rfl
 rw [iteF hc79] at hF23
 simp only [zh,q0y,qf,qe,f76,qt,qb,Nat.reduceAdd,Nat.zero_add,Nat.add_zero,qq,qn,B0,reduceIte,reduceEqDiff]
 refine qj (v:=lst cI x7.Read) rfl ?_
 simp only [zo,qb,zr,qd,qa,B0,reduceIte,reduceEqDiff]
 obtain ⟨oc82,hX84,hk85⟩:=jj hF23
 simp only [q0r]
 refine j8 (σ:=Unit) x7.Read (fun i80 x81 _=>qa9 v_0 x7 i80 x81 ) (fun s fr' h'=>fr' 1 = .int .i64 v_1∧fr' 2 = .ref [.int .i64 v_0.Generation,
   lst Reader.cells v_0.Readers,lst cI v_0.Committed,lst cI v_0.Ends] 0∧fr' 5 = .ref [.bool x7.In,.int .i64 x7.Generation,lst cI x7.Share,
   lst cI x7.Read] 0∧fr' 54=lst cI x7.Read∧Sep h' (geL h.length) ([])) hX84 ⟨f74,f75,f76,rfl,hS78⟩ (by simp only [B0,reduceIte,reduceEqDiff]) (by simp only [B0,
   reduceIte,reduceEqDiff]) (fun _ _ _ h=>h) rfl rfl (fun _ _ _ _ h=>h) (fun _ _ _ _ h=>h) (fun _ _ _ _ h=>h) (by decide) ?_ ?_
 ·rintro i80 x81 _ fr94 h95 hx101 ⟨f97,f98,f99,f100,hS96⟩ f102 f103 oc83 hF86 hr87 Q88 hN89 hB93 hK90 hR91 hE92
  unfold qa9 at hF86
  simp only [q0v,qf,qe,f102,qd,f100,jo,B0,reduceIte,reduceEqDiff]
  refine qj (v := .ref (cI x81) 0) (j7 hx101 rfl) ?_
  simp only [qn,B0,reduceIte,reduceEqDiff]
  refine qj (v := .int .i64 x81) rfl ?_
  simp only [qd,qa,qws,qf,qe,f98,qt,qb,Nat.reduceAdd,Nat.zero_add,Nat.add_zero,qq,qn,B0,reduceIte,reduceEqDiff]
  refine qj (v:=lst cI v_0.Ends) rfl ?_
  obtain ⟨x104,hx105,hF106⟩:=qh hF86
  simp only [qd,jo,B0,reduceIte,reduceEqDiff]
  refine qj (v := .ref (cI x104) 0) (wu hx105 rfl) ?_
  simp only [qn,B0,reduceIte,reduceEqDiff]
  refine qj (v := .int .i64 x104) rfl ?_
  simp only [qw,B0,reduceIte,reduceEqDiff]
  refine je rfl (qi qs (qi qs (qi qs qy))) (wm (fun b hb=>decide_eq_true hb) x81 0 x104 _ rfl) ?_
  simp only [jf,qb,jt,qd,B0,reduceIte,reduceEqDiff]
  obtain ⟨v110,hx111,hF112⟩:=qh hF106
  refine z4 10 (fun fr' h'=>Sep h' (geL h.length) ([])∧fr' 79 = .bool v110∧fr' 1 = .int .i64 v_1∧fr' 2 = .ref [.int .i64 v_0.Generation,lst Reader.cells v_0.Readers,
    lst cI v_0.Committed,lst cI v_0.Ends] 0∧fr' 5 = .ref [.bool x7.In,.int .i64 x7.Generation,lst cI x7.Share,
    lst cI x7.Read] 0∧fr' 54=lst cI x7.Read∧fr' 55 = .int .i64 (List.length x7.Read:Int)∧fr' 56 = .int .i64 (i80:Int)) (fun Q107 hN108=>?_) ?_
  ·simp only [List.take_succ_cons,List.take_zero]
   simp only [qc (g:=69),B0,reduceIte,reduceEqDiff]
   refine q8 (t:=(!(zx x81 0 x104))) (fun hg109=>?_) (fun hg109=>?_)
   ·rw [iteT hg109] at hx111
    simp only [hg109,qc (g:=69),zy,qc (g:=75),uq,qr,qb,zk,qa,qm,B0,reduceIte,reduceEqDiff]
    have e113:=qg hx111
    exact hN108 _ _ ⟨hS96,by rw [←e113]; simp only [B0,reduceIte,reduceEqDiff],f97,f98,f99,f100,f103,f102⟩
   ·rw [iteF hg109] at hx111
    simp only [hg109,qc (g:=69),qo,f99,qt,qb,Nat.reduceAdd,Nat.zero_add,Nat.add_zero,qq,qn,B0,reduceIte,reduceEqDiff]
    refine qj (v:=lst cI x7.Share) rfl ?_
    obtain ⟨v114,hx115,hF116⟩:=qh hx111
    simp only [hg109,qc (g:=69),qo,qd,qw,B0,reduceIte,reduceEqDiff]
    refine je rfl (qi ze (qi qs qy)) (qch (fun b hb=>decide_eq_true hb) x7.Share (i80:Int) v114 hx115) ?_
    simp only [hg109,qc (g:=69),qo,jf,qb,jt,qd,B0,reduceIte,reduceEqDiff]
    refine z4 3 (fun fr' h'=>Sep h' (geL h.length) ([])∧fr' 78 = .bool ((!v114)&&(decide (x81≠0)))∧fr' 1 = .int .i64 v_1∧fr' 2 = .ref [.int .i64 v_0.Generation,
      lst Reader.cells v_0.Readers,lst cI v_0.Committed,lst cI v_0.Ends] 0∧fr' 5 = .ref [.bool x7.In,.int .i64 x7.Generation,lst cI x7.Share,
      lst cI x7.Read] 0∧fr' 54=lst cI x7.Read∧fr' 55 = .int .i64 (List.length x7.Read:Int)∧fr' 56 = .int .i64 (i80:Int)∧fr' 69 = .bool
      (!(zx x81 0 x104))) (fun Q117 hN118=>?_) ?_
    ·simp only [List.take_succ_cons,List.take_zero]
     simp only [qc (g:=75),B0,reduceIte,reduceEqDiff]
     refine q8 (t:=(!v114)) (fun hg119=>?_) (fun hg119=>?_)
     ·simp only [hg119,qc (g:=75),zf,qd,q9,qb,wx,hg109,qc (g:=69),qo,qr,zk,qa,qm,
       B0,reduceIte,reduceEqDiff]
      exact hN118 _ _ ⟨hS96,by rw [xj hg119]; simp only [B0,reduceIte,reduceEqDiff],f97,f98,f99,f100,f103,f102,by simp only [hg109,B0,reduceIte,reduceEqDiff]⟩
     ·simp only [hg119,qc (g:=75),jh,hg109,qc (g:=69),qo,qr,qb,zj,qa,qm,B0,reduceIte,
       reduceEqDiff]
      exact hN118 _ _ ⟨hS96,by rw [xy hg119]; simp only [B0,reduceIte,reduceEqDiff],f97,f98,f99,f100,f103,f102,by simp only [hg109,B0,reduceIte,reduceEqDiff]⟩
    rintro fr120 h129 ⟨hS130,f121,f122,f123,f124,f125,f126,f127,f128⟩
    simp only [List.drop_succ_cons,List.drop_zero]
    simp only [f128,hg109,qr,qb,zj,f121,qa,qm,B0,reduceIte,reduceEqDiff]
    have e131:=qg hF116
    exact hN108 _ _ ⟨hS130,by rw [←e131]; simp only [B0,reduceIte,reduceEqDiff],f122,f123,f124,f125,f126,f127⟩
  rintro fr132 h140 ⟨hS141,f133,f134,f135,f136,f137,f138,f139⟩
  simp only [List.drop_succ_cons,List.drop_zero]
  simp only [qa,f133,za,B0,reduceIte,reduceEqDiff]
  refine qz (t:=v110) (fun hc142=>?_) (fun hc142=>?_)
  ·rw [iteT hc142] at hF112
   simp only [qf,qe,qd,qa,qx,B0,reduceIte,reduceEqDiff]
   have e143:=qg hF112
   subst e143
   have ho144:=hr87 _ rfl
   have hk145:=hk85
   rw [ho144] at hk145
   dsimp only [jnO] at hk145
   apply hR91
   have he:=qg hk145
   subst he
   simp only [zi,B0,reduceIte,reduceEqDiff]
   exact rfl
  rw [iteF hc142] at hF112
  simp only [zh,qm,B0,reduceIte,reduceEqDiff]
  have e146:=qg hF112
  exact hN89 _ _ _ e146.symm ⟨f134,f135,f136,f137,hS141⟩ (f139) (f138)
 rintro _ fr148 h149 rfl ⟨f151,f152,f153,f154,hS150⟩
 dsimp only [jnO] at hk85
 unfold qc1 at hk85
 simp only [qz6,qf,jc,f153,zv,ql,Nat.reduceAdd,Nat.zero_add,Nat.add_zero,qq,zm,B0,reduceIte,reduceEqDiff]
 refine qp (v := .bool x7.In) rfl ?_
 simp only [qf5,ql,jt,z8,B0,reduceIte,reduceEqDiff]
 refine qc2 6 (fun fr' h'=>Sep h' (geL h.length) ([])∧fr' 90 = .bool ((!x7.In)||(decide
   (x7.Generation≠v_0.Generation)))∧fr' 1 = .int .i64 v_1∧fr' 2 = .ref [.int .i64 v_0.Generation,lst Reader.cells v_0.Readers,lst cI v_0.Committed,
   lst cI v_0.Ends] 0∧fr' 5 = .ref [.bool x7.In,.int .i64 x7.Generation,lst cI x7.Share,lst cI x7.Read] 0) rfl (fun Q155 hN156=>?_) ?_
 ·simp only [List.take_succ_cons,List.take_zero]
  simp only [qv (g:=84),B0,reduceIte,reduceEqDiff]
  refine kj (t:=(!x7.In)) (fun hg157=>?_) (fun hg157=>?_)
  ·simp only [hg157,qv (g:=84),xg,jx,ql,zk,zc,qm,B0,reduceIte,reduceEqDiff]
   exact hN156 _ _ ⟨hS150,by rw [orT hg157]; simp only [B0,reduceIte,reduceEqDiff],f151,f152,f153⟩
  ·simp only [hg157,qv (g:=84),zt,f153,zv,ql,Nat.reduceAdd,Nat.zero_add,Nat.add_zero,qq,zm,B0,reduceIte,reduceEqDiff]
   refine qp (v := .int .i64 x7.Generation) rfl ?_
   simp only [hg157,qv (g:=84),zt,f152,zv,ql,Nat.reduceAdd,Nat.zero_add,Nat.add_zero,qq,zm,B0,reduceIte,reduceEqDiff]
   refine qp (v := .int .i64 v_0.Generation) rfl ?_
   simp only [hg157,qv (g:=84),zt,yh,ql,wx,jx,zj,zc,qm,B0,reduceIte,reduceEqDiff]
   exact hN156 _ _ ⟨hS150,by rw [orF hg157]; simp only [B0,reduceIte,reduceEqDiff],f151,f152,f153⟩
 rintro fr158 h163 ⟨hS164,f159,f160,f161,f162⟩
 simp only [List.drop_succ_cons,List.drop_zero]
 simp only [f159,z8,ql,B0,reduceIte,reduceEqDiff]
 simp only [qv (g:=91),B0,reduceIte,reduceEqDiff]
 refine kj (t:=((!x7.In)||(decide (x7.Generation≠v_0.Generation)))) (fun hg165=>?_) (fun hg165=>?_)
 ·rw [iteT hg165] at hk85
  simp only [hg165,qv (g:=91),xg,jx,ql,zk,z8,zc,qx,B0,reduceIte,reduceEqDiff]
  have he:=qg hk85
  subst he
  simp only [zi,B0,reduceIte,reduceEqDiff]
  exact rfl
 rw [iteF hg165] at hk85
 simp only [hg165,qv (g:=91),zt,f162,qg0,ql,Nat.reduceAdd,Nat.zero_add,Nat.add_zero,qq,qcu,qba,B0,reduceIte,reduceEqDiff]
 refine qp (v:=lst cI x7.Share) rfl ?_
 simp only [hg165,qv (g:=91),zt,f161,zm,B0,reduceIte,reduceEqDiff]
 refine qp (v := .agg [.int .i64 v_0.Generation,lst Reader.cells v_0.Readers,lst cI v_0.Committed,lst cI v_0.Ends]) rfl ?_
 obtain ⟨v166,hx167,hF168⟩:=qh hk85
 simp only [hg165,qv (g:=91),zt,f160,z8,ql,ut,B0,reduceIte,reduceEqDiff]
 refine qjf rfl hS164 (qi (jb (qi qs (qi ze (qi ze (qi ze qy))))) (qi qs qy)) (qds
   (fun b hb=>decide_eq_true hb) v_0 v_1 v166 hx167) ?_
 rintro v169 h173 ⟨_,c170,rfl,hv171,hS174⟩
 refine ⟨_,qgs (SlF.free1 hv171),hS174,(z0 (SlF.pf hv171 (fun _=>rfl)) yc),fun h175 hS176=>?_⟩
 have hS177:Sep h175 (geL h.length) (c170++([])):=by simpa only [List.append_assoc,List.nil_append] using hS176
 obtain ⟨v178,hx179,hF180⟩:=qh hF168
 simp only [hg165,qv (g:=91),zt,y5,B0,reduceIte,reduceEqDiff]
 refine qel rfl (qi ze (qi (SlF.snap hv171 hS177 rfl (fun _=>rfl) (fun _=>rfl)) qy)) (qj8
   (fun b hb=>decide_eq_true hb) x7.Share v166 v178 hx179) ?_
 simp only [hg165,jx,ql,zj,z8,zc,qx,B0,reduceIte,reduceEqDiff]
 have he:=qg hF180
 subst he
 simp only [zi,B0,reduceIte,reduceEqDiff]
 exact rfl
theorem xw {W:Nat→Bool}{h:Heap} (hW:∀ b,
  (geL h.length) b→W b=true) (v_0:Readers_) (r:Bool) (hF:yb v_0=some r) : Ret E W 36 [.agg [.int .i64 v_0.Generation,lst Reader.cells v_0.Readers,
  lst cI v_0.Committed,lst cI v_0.Ends]] h (fun v h'=>cut h.length h' E.sz false 9 v=some (.bool r)):=by
 refine Ret.of (fn:=x36) rfl (Run.of ?_)
 unfold yb at hF
 have zf0:zb [.agg [.int .i64 v_0.Generation,lst Reader.cells v_0.Readers,lst cI v_0.Committed,lst cI v_0.Ends]] 0 = .agg [.int .i64 v_0.Generation,
   lst Reader.cells v_0.Readers,lst cI v_0.Committed,lst cI v_0.Ends]:=rfl
 generalize zb [.agg [.int .i64 v_0.Generation,lst Reader.cells v_0.Readers,lst cI v_0.Committed,lst cI v_0.Ends]]=fr0 at zf0 ⊢
 have hS:Sep h (geL h.length) []:=Sep.nil h
 simp only [x36,qf,qe,jy,zf0,B0,reduceIte,reduceEqDiff]
 refine jk (cs:=[.int .i64 v_0.Generation,lst Reader.cells v_0.Readers,lst cI v_0.Committed,lst cI v_0.Ends]) hS rfl rfl rfl (fun b1 h2 hS3=>?_)
 simp only [qd,qa,B0,reduceIte,reduceEqDiff]
 refine zu hS3 hW (by simp only [B0,reduceIte,reduceEqDiff]) (fun h5 hS6=>?_)
 simp only [zp,qqu,qf,qe,qt,qb,Nat.reduceAdd,Nat.zero_add,Nat.add_zero,qq,qn,B0,reduceIte,reduceEqDiff]
 refine qj (v:=lst Reader.cells v_0.Readers) rfl ?_
 simp only [zo,qb,zr,qw,B0,reduceIte,reduceEqDiff]
 refine je rfl (qi qs (qi qs (qi qs qy))) (wm (fun b hb=>decide_eq_true hb) (List.length v_0.Readers:Int) 1 5 _ rfl) ?_
 simp only [jf,qb,jt,qd,B0,reduceIte,reduceEqDiff]
 refine z4 6 (fun fr' h'=>Sep h' (geL h.length) ([])∧fr' 17 = .bool ((!(zx (List.length v_0.Readers:Int) 1 5))||(!(zx
   (List.length v_0.Ends:Int) 1 6)))∧fr' 1 = .ref [.int .i64 v_0.Generation,lst Reader.cells v_0.Readers,lst cI v_0.Committed,lst cI v_0.Ends] 0) (fun Q7 hN8=>?_) ?_
 ·simp only [List.take_succ_cons,List.take_zero]
  simp only [qc (g:=11),B0,reduceIte,reduceEqDiff]
  refine q8 (t:=(!(zx (List.length v_0.Readers:Int) 1 5))) (fun hg9=>?_) (fun hg9=>?_)
  ·simp only [hg9,qc (g:=11),zy,qr,qb,zk,qa,qm,B0,reduceIte,reduceEqDiff]
   exact hN8 _ _ ⟨hS6,by rw [orT hg9]; simp only [B0,reduceIte,reduceEqDiff],rfl⟩
  ·simp only [hg9,qc (g:=11),qo,qt,qb,Nat.reduceAdd,Nat.zero_add,Nat.add_zero,qq,qn,B0,reduceIte,reduceEqDiff]
   refine qj (v:=lst cI v_0.Ends) rfl ?_
   simp only [hg9,qc (g:=11),qo,zo,qb,zr,qw,B0,reduceIte,reduceEqDiff]
   refine je rfl (qi qs (qi qs (qi qs qy))) (wm (fun b hb=>decide_eq_true hb) (List.length v_0.Ends:Int) 1 6 _ rfl) ?_
   simp only [hg9,qc (g:=11),qo,jf,qb,jt,qr,zj,qa,qm,B0,reduceIte,reduceEqDiff]
   exact hN8 _ _ ⟨hS6,by rw [orF hg9]; simp only [B0,reduceIte,reduceEqDiff],rfl⟩
 rintro fr10 h13 ⟨hS14,f11,f12⟩
 simp only [List.drop_succ_cons,List.drop_zero]
 simp only [f11,qd,B0,reduceIte,reduceEqDiff]
 refine z4 8 (fun fr' h'=>Sep h' (geL h.length) ([])∧fr' 26 = .bool (((!(zx (List.length v_0.Readers:Int) 1 5))||(!(zx
   (List.length v_0.Ends:Int) 1 6)))||(decide ((List.length v_0.Committed:Int)≠(List.length v_0.Ends:Int))))∧fr' 1 = .ref [.int .i64 v_0.Generation,
   lst Reader.cells v_0.Readers,lst cI v_0.Committed,lst cI v_0.Ends] 0) (fun Q15 hN16=>?_) ?_
 ·simp only [List.take_succ_cons,List.take_zero]
  simp only [qc (g:=18),B0,reduceIte,reduceEqDiff]
  refine q8 (t:=((!(zx (List.length v_0.Readers:Int) 1 5))||(!(zx (List.length v_0.Ends:Int) 1 6)))) (fun hg17=>?_) (fun hg17=>?_)
  ·simp only [hg17,qc (g:=18),zy,qr,qb,zk,qa,qm,B0,reduceIte,reduceEqDiff]
   exact hN16 _ _ ⟨hS14,by rw [orT hg17]; simp only [B0,reduceIte,reduceEqDiff],f12⟩
  ·simp only [hg17,qc (g:=18),qo,f12,qt,qb,Nat.reduceAdd,Nat.zero_add,Nat.add_zero,qq,qn,B0,reduceIte,reduceEqDiff]
   refine qj (v:=lst cI v_0.Committed) rfl ?_
   simp only [hg17,qc (g:=18),qo,zo,qb,zr,f12,qt,Nat.reduceAdd,Nat.zero_add,Nat.add_zero,qq,qn,B0,reduceIte,
     reduceEqDiff]
   refine qj (v:=lst cI v_0.Ends) rfl ?_
   simp only [hg17,qc (g:=18),qo,zo,qb,zr,q9,wx,qr,zj,qa,qm,B0,reduceIte,reduceEqDiff]
   exact hN16 _ _ ⟨hS14,by rw [orF hg17]; simp only [B0,reduceIte,reduceEqDiff],f12⟩
 rintro fr18 h21 ⟨hS22,f19,f20⟩
 simp only [List.drop_succ_cons,List.drop_zero]
 simp only [f19,qd,B0,reduceIte,reduceEqDiff]
 refine z4 5 (fun fr' h'=>Sep h' (geL h.length) ([])∧fr' 32 = .bool ((((!(zx (List.length v_0.Readers:Int) 1 5))||(!(zx
   (List.length v_0.Ends:Int) 1 6)))||(decide ((List.length v_0.Committed:Int)≠(List.length v_0.Ends:Int)))) ||
   (!(zx v_0.Generation 0 1000)))∧fr' 1 = .ref [.int .i64 v_0.Generation,lst Reader.cells v_0.Readers,lst cI v_0.Committed,
   lst cI v_0.Ends] 0) (fun Q23 hN24=>?_) ?_
 ·simp only [List.take_succ_cons,List.take_zero]
  simp only [qc (g:=27),B0,reduceIte,reduceEqDiff]
  refine q8 (t:=(((!(zx (List.length v_0.Readers:Int) 1 5))||(!(zx (List.length v_0.Ends:Int) 1 6)))||(decide
    ((List.length v_0.Committed:Int)≠(List.length v_0.Ends:Int))))) (fun hg25=>?_) (fun hg25=>?_)
  ·simp only [hg25,qc (g:=27),zy,qr,qb,zk,qa,qm,B0,reduceIte,reduceEqDiff]
   exact hN24 _ _ ⟨hS22,by rw [orT hg25]; simp only [B0,reduceIte,reduceEqDiff],f20⟩
  ·simp only [hg25,qc (g:=27),qo,f20,qt,qb,Nat.reduceAdd,Nat.zero_add,Nat.add_zero,qq,qn,B0,reduceIte,reduceEqDiff]
   refine qj (v := .int .i64 v_0.Generation) rfl ?_
   simp only [hg25,qc (g:=27),qo,qw,B0,reduceIte,reduceEqDiff]
   refine je rfl (qi qs (qi qs (qi qs qy))) (wm (fun b hb=>decide_eq_true hb) v_0.Generation 0 1000 _ rfl) ?_
   simp only [hg25,qc (g:=27),qo,jf,qb,jt,qr,zj,qa,qm,B0,reduceIte,reduceEqDiff]
   exact hN24 _ _ ⟨hS22,by rw [orF hg25]; simp only [B0,reduceIte,reduceEqDiff],f20⟩
 rintro fr26 h29 ⟨hS30,f27,f28⟩
 simp only [List.drop_succ_cons,List.drop_zero]
 simp only [qa,f27,za,B0,reduceIte,reduceEqDiff]
 refine qz (t:=((((!(zx (List.length v_0.Readers:Int) 1 5))||(!(zx (List.length v_0.Ends:Int) 1 6)))||(decide
   ((List.length v_0.Committed:Int)≠(List.length v_0.Ends:Int))))||(!(zx v_0.Generation 0 1000)))) (fun hc31=>?_) (fun hc31=>?_)
 ·rw [iteT hc31] at hF
  simp only [qf,qe,qd,qa,qx,B0,reduceIte,reduceEqDiff]
  have he:=qg hF
  subst he
  simp only [zi,B0,reduceIte,reduceEqDiff]
  exact rfl
 rw [iteF hc31] at hF
 simp only [zh,qqa,qf,qe,f28,qt,qb,Nat.reduceAdd,Nat.zero_add,Nat.add_zero,qq,qn,B0,reduceIte,reduceEqDiff]
 refine qj (v:=lst cI v_0.Ends) rfl ?_
 simp only [zo,qb,zr,qd,qa,B0,reduceIte,reduceEqDiff]
 obtain ⟨oc34,hX36,hk37⟩:=jj hF
 simp only [qyj]
 refine j8 (σ:=Unit) v_0.Ends (fun i32 x33 _=>qag v_0 i32 x33 ) (fun s fr' h'=>fr' 1 = .ref [.int .i64 v_0.Generation,lst Reader.cells v_0.Readers,
   lst cI v_0.Committed,lst cI v_0.Ends] 0∧fr' 34=lst cI v_0.Ends∧Sep h' (geL h.length) ([])) hX36 ⟨f28,rfl,hS30⟩ (by simp only [B0,reduceIte,
   reduceEqDiff]) (by simp only [B0,reduceIte,reduceEqDiff]) (fun _ _ _ h=>h) rfl rfl (fun _ _ _ _ h=>h) (fun _ _ _ _ h=>h) (fun _ _ _ _ h=>h) (by decide) ?_ ?_
 ·rintro i32 x33 _ fr46 h47 hx51 ⟨f49,f50,hS48⟩ f52 f53 oc35 hF38 hr39 Q40 hN41 hB45 hK42 hR43 hE44
  unfold qag at hF38
  simp only [qy3,qf,qe,f52,qd,f50,jo,B0,reduceIte,reduceEqDiff]
  refine qj (v := .ref (cI x33) 0) (j7 hx51 rfl) ?_
  simp only [qn,B0,reduceIte,reduceEqDiff]
  refine qj (v := .int .i64 x33) rfl ?_
  simp only [qd,qa,qzk,qf,qe,qw,B0,reduceIte,reduceEqDiff]
  refine je rfl (qi qs (qi qs (qi qs qy))) (wm (fun b hb=>decide_eq_true hb) x33 0 100 _ rfl) ?_
  simp only [jf,qb,jt,qd,B0,reduceIte,reduceEqDiff]
  obtain ⟨v57,hx58,hF59⟩:=qh hF38
  refine z4 9 (fun fr' h'=>Sep h' (geL h.length) ([])∧fr' 53 = .bool v57∧fr' 1 = .ref [.int .i64 v_0.Generation,lst Reader.cells v_0.Readers,lst cI v_0.Committed,
    lst cI v_0.Ends] 0∧fr' 34=lst cI v_0.Ends∧fr' 35 = .int .i64 (List.length v_0.Ends:Int)∧fr' 36 = .int .i64 (i32:Int)) (fun Q54 hN55=>?_) ?_
  ·simp only [List.take_succ_cons,List.take_zero]
   simp only [qc (g:=44),B0,reduceIte,reduceEqDiff]
   refine q8 (t:=(!(zx x33 0 100))) (fun hg56=>?_) (fun hg56=>?_)
   ·rw [iteT hg56] at hx58
    simp only [hg56,qc (g:=44),zy,qr,qb,zk,qa,qm,B0,reduceIte,reduceEqDiff]
    have e60:=qg hx58
    exact hN55 _ _ ⟨hS48,by rw [←e60]; simp only [B0,reduceIte,reduceEqDiff],f49,f50,f53,f52⟩
   ·rw [iteF hg56] at hx58
    simp only [hg56,qc (g:=44),qo,f49,qt,qb,Nat.reduceAdd,Nat.zero_add,Nat.add_zero,qq,qn,B0,reduceIte,reduceEqDiff]
    refine qj (v:=lst cI v_0.Committed) rfl ?_
    obtain ⟨x61,hx62,hF63⟩:=qh hx58
    simp only [hg56,qc (g:=44),qo,qd,jo,B0,reduceIte,reduceEqDiff]
    refine qj (v := .ref (cI x61) 0) (wu hx62 rfl) ?_
    simp only [hg56,qc (g:=44),qo,qn,B0,reduceIte,reduceEqDiff]
    refine qj (v := .int .i64 x61) rfl ?_
    simp only [hg56,qc (g:=44),qo,qd,qw,B0,reduceIte,reduceEqDiff]
    refine je rfl (qi qs (qi qs (qi qs qy))) (wm (fun b hb=>decide_eq_true hb) x61 0 x33 _ rfl) ?_
    simp only [hg56,qc (g:=44),qo,jf,qb,jt,qr,zj,qa,qm,B0,reduceIte,reduceEqDiff]
    have e64:=qg hF63
    exact hN55 _ _ ⟨hS48,by rw [←e64]; simp only [B0,reduceIte,reduceEqDiff],f49,f50,f53,f52⟩
  rintro fr65 h71 ⟨hS72,f66,f67,f68,f69,f70⟩
  simp only [List.drop_succ_cons,List.drop_zero]
  simp only [qa,f66,za,B0,reduceIte,reduceEqDiff]
  refine qz (t:=v57) (fun hc73=>?_) (fun hc73=>?_)
  ·rw [iteT hc73] at hF59
   simp only [qf,qe,qd,qa,qx,B0,reduceIte,reduceEqDiff]
   have e74:=qg hF59
   subst e74
   have ho75:=hr39 _ rfl
   have hk76:=hk37
   rw [ho75] at hk76
   dsimp only [jnO] at hk76
   apply hR43
   have he:=qg hk76
   subst he
   simp only [zi,B0,reduceIte,reduceEqDiff]
   exact rfl
  rw [iteF hc73] at hF59
  simp only [zh,qm,B0,reduceIte,reduceEqDiff]
  have e77:=qg hF59
  exact hN41 _ _ _ e77.symm ⟨f67,f68,hS72⟩ (f70) (f69)
 rintro _ fr79 h80 rfl ⟨f82,f83,hS81⟩
 dsimp only [jnO] at hk37
 unfold qbz at hk37
 simp only [qvo,qf,qe,f82,qt,qb,Nat.reduceAdd,Nat.zero_add,Nat.add_zero,qq,qn,B0,reduceIte,reduceEqDiff]
 refine qj (v:=lst Reader.cells v_0.Readers) rfl ?_
 simp only [zo,qb,zr,qd,qa,B0,reduceIte,reduceEqDiff]
 obtain ⟨oc86,hX88,hk89⟩:=jj hk37
 simp only [q05]
 refine qbr (σ:=Unit) (fun i84 _=>qae v_0 i84 ) (fun s fr' h'=>fr' 1 = .ref [.int .i64 v_0.Generation,lst Reader.cells v_0.Readers,
   lst cI v_0.Committed,lst cI v_0.Ends] 0∧Sep h' (geL h.length) ([])) hX88 ⟨f82,hS81⟩ (by simp only [B0,reduceIte,reduceEqDiff]) (by simp only [B0,reduceIte,
   reduceEqDiff]) (fun _ _ _ h=>h) rfl rfl (fun _ _ _ _ h=>h) (fun _ _ _ _ h=>h) (fun _ _ _ _ h=>h) (by decide) ?_ ?_
 ·rintro i84 _ fr98 h99 hx102 ⟨f101,hS100⟩ f103 f104 oc87 hF90 hr91 Q92 hN93 hB97 hK94 hR95 hE96
  unfold qae at hF90
  simp only [qx3,qf,qe,f103,qd,qa,qxs,f101,qn,B0,reduceIte,reduceEqDiff]
  refine qj (v := .agg [.int .i64 v_0.Generation,lst Reader.cells v_0.Readers,lst cI v_0.Committed,lst cI v_0.Ends]) rfl ?_
  obtain ⟨v105,hx106,hF107⟩:=qh hF90
  simp only [qd,qw,B0,reduceIte,reduceEqDiff]
  refine je rfl (qi (jb (qi qs (qi ze (qi ze (qi ze qy))))) (qi qs qy)) (qi4
    (fun b hb=>decide_eq_true hb) v_0 (i84:Int) v105 hx106) ?_
  simp only [jf,qb,jt,qa,za,B0,reduceIte,reduceEqDiff]
  refine qz (t:=(!v105)) (fun hc108=>?_) (fun hc108=>?_)
  ·rw [iteT hc108] at hF107
   simp only [qf,qe,qd,qa,qx,B0,reduceIte,reduceEqDiff]
   have e109:=qg hF107
   subst e109
   have ho110:=hr91 _ rfl
   have hk111:=hk89
   rw [ho110] at hk111
   dsimp only [jnO] at hk111
   apply hR95
   have he:=qg hk111
   subst he
   simp only [zi,B0,reduceIte,reduceEqDiff]
   exact rfl
  rw [iteF hc108] at hF107
  simp only [zh,qm,B0,reduceIte,reduceEqDiff]
  have e112:=qg hF107
  exact hN93 _ _ _ e112.symm ⟨f101,hS100⟩ (f103) (f104)
 rintro _ fr114 h115 rfl ⟨f117,hS116⟩
 dsimp only [jnO] at hk89
 unfold qdz at hk89
 simp only [qf,qe,qd,qa,qx,B0,reduceIte,reduceEqDiff]
 have he:=qg hk89
 subst he
 simp only [zi,B0,reduceIte,reduceEqDiff]
 exact rfl
end Go.Proofs.Ytdhibknhejhfaaa.X
