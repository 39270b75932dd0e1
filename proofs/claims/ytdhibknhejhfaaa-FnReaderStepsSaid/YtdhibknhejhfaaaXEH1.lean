/- The functions' code comes to what the plain functions say (1). -/
import Derived.Test.YtdhibknhejhfaaaXEF
import Derived.Test.YtdhibknhejhfaaaXED
set_option linter.unusedVariables false
set_option linter.unusedSimpArgs false
set_option maxRecDepth 100000
namespace Go.Proofs.Ytdhibknhejhfaaa.X
open Go
open Nat (reduceEqDiff)
def Reader.R:Rep Reader:=fun x cs os=>∃ (v2:XV) (c2:List Obj) (v3:XV) (c3:List Obj),SlF cI 1 3 v2 x.Share c2∧SlF cI 1 3 v3 x.Read c3∧cs=[.bool x.In,
  .int .i64 x.Generation,v2,v3]∧c2++(c3)=os
theorem Reader.RI {x:Reader}{v2:XV}{c2:List Obj}(h2:SlF cI 1 3 v2 x.Share c2){v3:XV}{c3:List Obj}(h3:SlF cI 1 3 v3 x.Read c3) : Reader.R x [.bool x.In,
  .int .i64 x.Generation,v2,v3] (c2++(c3)):=⟨v2,c2,v3,c3,h2,h3,rfl,rfl⟩
theorem Reader.RO:RepOk E.sz Reader.R Reader.cells 4 where
 len:=fun {x cs os} H=>by
  obtain ⟨v2,c2,v3,c3,h2,h3,rfl,rfl⟩:=H
  rfl
 flen:=fun _=>rfl
 one:=fun {x cs os} H=>by
  obtain ⟨v2,c2,v3,c3,h2,h3,rfl,rfl⟩:=H
  exact (qk rfl (qk rfl (qk (SlF.one h2) (qk (SlF.one h3) zl))))
 snap:=fun {x cs os h lo S} m H hS=>by
  obtain ⟨v2,c2,v3,c3,h2,h3,rfl,rfl⟩:=H
  have hS2:Sep h lo (c2++(c3++S)):=(by simpa only [List.append_assoc] using hS)
  exact (qi qkq (qi qs (qi (SlF.snap h2 hS2 rfl (fun _=>rfl) (fun _=>rfl)) (qi (SlF.snap h3 (Sep.m1 hS2) rfl (fun _=>rfl) (fun _=>rfl)) qy))))
 cut:=fun {x cs os h lo n0 keep S} m H hS hge=>by
  obtain ⟨v2,c2,v3,c3,h2,h3,rfl,rfl⟩:=H
  have hS2:Sep h lo (c2++(c3++S)):=(by simpa only [List.append_assoc] using hS)
  exact (qi rfl (qi rfl (qi (SlF.cut h2 hS2 hge rfl (fun _=>rfl) (fun _=>rfl)) (qi (SlF.cut h3 (Sep.m1 hS2) hge rfl (fun _=>rfl) (fun _=>rfl)) qy))))
 free:=fun {x cs os} H=>by
  obtain ⟨v2,c2,v3,c3,h2,h3,rfl,rfl⟩:=H
  exact (qk rfl (qk rfl (qk (SlF.free1 h2) (qk (SlF.free1 h3) zl))))
 pf:=fun {x cs os} H=>by
  obtain ⟨v2,c2,v3,c3,h2,h3,rfl,rfl⟩:=H
  exact (z0 (SlF.pf h2 (fun _=>rfl)) (SlF.pf h3 (fun _=>rfl)))
theorem x5 {W:Nat→Bool}{h:Heap} (hW:∀ b,
  (geL h.length) b→W b=true) (a_0:List Int) (b_1:List Int) (r:Bool) (hF:kz a_0 b_1=some r) : Ret E W 37 [lst cI a_0,
  lst cI b_1] h (fun v h'=>cut h.length h' E.sz false 9 v=some (.bool r)):=by
 refine Ret.of (fn:=x37) rfl (Run.of ?_)
 unfold kz at hF
 have zf0:zb [lst cI a_0,lst cI b_1] 0=lst cI a_0:=rfl
 have zf1:zb [lst cI a_0,lst cI b_1] 1=lst cI b_1:=rfl
 generalize zb [lst cI a_0,lst cI b_1]=fr0 at zf0 zf1 ⊢
 have hS:Sep h (geL h.length) []:=Sep.nil h
 simp only [x37,qf,qe,qd,qa,qzh,zf0,zo,qb,zr,zf1,q9,wx,za,B0,reduceIte,reduceEqDiff]
 refine qz (t:=(decide ((List.length a_0:Int)≠(List.length b_1:Int)))) (fun hc1=>?_) (fun hc1=>?_)
 ·rw [iteT hc1] at hF
  simp only [qf,qe,qd,qa,qx,B0,reduceIte,reduceEqDiff]
  have he:=qg hF
  subst he
  simp only [zi,B0,reduceIte,reduceEqDiff]
  exact rfl
 rw [iteF hc1] at hF
 simp only [zh,qyv,qf,qe,zf0,qd,zo,qb,zr,qa,B0,reduceIte,reduceEqDiff]
 obtain ⟨oc4,hX6,hk7⟩:=jj hF
 simp only [qvl]
 refine j8 (σ:=Unit) a_0 (fun i2 x3 _=>qaa b_1 i2 x3 ) (fun s fr' h'=>fr' 0=lst cI a_0∧fr' 1=lst cI b_1∧Sep h' (geL h.length) ([])) hX6 ⟨zf0,
   zf1,hS⟩ (by simp only [B0,reduceIte,reduceEqDiff]) (by simp only [B0,reduceIte,
   reduceEqDiff]) (fun _ _ _ h=>h) rfl rfl (fun _ _ _ _ h=>h) (fun _ _ _ _ h=>h) (fun _ _ _ _ h=>h) (by decide) ?_ ?_
 ·rintro i2 x3 _ fr16 h17 hx21 ⟨f19,f20,hS18⟩ f22 f23 oc5 hF8 hr9 Q10 hN11 hB15 hK12 hR13 hE14
  unfold qaa at hF8
  simp only [qxj,qf,qe,f22,qd,qa,qzc,jc,f19,z8,ql,yj,B0,reduceIte,reduceEqDiff]
  refine qp (v := .ref (cI x3) 0) (j7 hx21 rfl) ?_
  simp only [zm,B0,reduceIte,reduceEqDiff]
  refine qp (v := .int .i64 x3) rfl ?_
  obtain ⟨x24,hx25,hF26⟩:=qh hF8
  simp only [f20,z8,ql,yj,B0,reduceIte,reduceEqDiff]
  refine qp (v := .ref (cI x24) 0) (wu hx25 rfl) ?_
  simp only [zm,B0,reduceIte,reduceEqDiff]
  refine qp (v := .int .i64 x24) rfl ?_
  simp only [yh,ql,wx,zc,za,B0,reduceIte,reduceEqDiff]
  refine qz (t:=(decide (x3≠x24))) (fun hc27=>?_) (fun hc27=>?_)
  ·rw [iteT hc27] at hF26
   simp only [qf,qe,qd,qa,qx,B0,reduceIte,reduceEqDiff]
   have e28:=qg hF26
   subst e28
   have ho29:=hr9 _ rfl
   have hk30:=hk7
   rw [ho29] at hk30
   dsimp only [jnO] at hk30
   apply hR13
   have he:=qg hk30
   subst he
   simp only [zi,B0,reduceIte,reduceEqDiff]
   exact rfl
  rw [iteF hc27] at hF26
  simp only [zh,qm,B0,reduceIte,reduceEqDiff]
  have e31:=qg hF26
  exact hN11 _ _ _ e31.symm ⟨f19,f20,hS18⟩ (f22) (f23)
 rintro _ fr33 h34 rfl ⟨f36,f37,hS35⟩
 dsimp only [jnO] at hk7
 unfold qfq at hk7
 simp only [qf,qe,qd,qa,qx,B0,reduceIte,reduceEqDiff]
 have he:=qg hk7
 subst he
 simp only [zi,B0,reduceIte,reduceEqDiff]
 exact rfl
theorem qet {W:Nat→Bool}{h:Heap} (hW:∀ b,
  (geL h.length) b→W b=true) (v_0:Readers_) (v_1:Readers_) (r:Bool) (hF:xa v_0 v_1=some r) : Ret E W 11 [.agg [.int .i64 v_0.Generation,
  lst Reader.cells v_0.Readers,lst cI v_0.Committed,lst cI v_0.Ends],.agg [.int .i64 v_1.Generation,lst Reader.cells v_1.Readers,lst cI v_1.Committed,
  lst cI v_1.Ends]] h (fun v h'=>cut h.length h' E.sz false 9 v=some (.bool r)):=by
 refine Ret.of (fn:=x11) rfl (Run.of ?_)
 unfold xa at hF
 have zf0:zb [.agg [.int .i64 v_0.Generation,lst Reader.cells v_0.Readers,lst cI v_0.Committed,lst cI v_0.Ends],.agg [.int .i64 v_1.Generation,
   lst Reader.cells v_1.Readers,lst cI v_1.Committed,lst cI v_1.Ends]] 0 = .agg [.int .i64 v_0.Generation,lst Reader.cells v_0.Readers,lst cI v_0.Committed,
   lst cI v_0.Ends]:=rfl
 have zf1:zb [.agg [.int .i64 v_0.Generation,lst Reader.cells v_0.Readers,lst cI v_0.Committed,lst cI v_0.Ends],.agg [.int .i64 v_1.Generation,
   lst Reader.cells v_1.Readers,lst cI v_1.Committed,lst cI v_1.Ends]] 1 = .agg [.int .i64 v_1.Generation,lst Reader.cells v_1.Readers,lst cI v_1.Committed,
   lst cI v_1.Ends]:=rfl
 generalize zb [.agg [.int .i64 v_0.Generation,lst Reader.cells v_0.Readers,lst cI v_0.Committed,lst cI v_0.Ends],.agg [.int .i64 v_1.Generation,
   lst Reader.cells v_1.Readers,lst cI v_1.Committed,lst cI v_1.Ends]]=fr0 at zf0 zf1 ⊢
 have hS:Sep h (geL h.length) []:=Sep.nil h
 simp only [x11,qf,qe,jy,zf0,B0,reduceIte,reduceEqDiff]
 refine jk (cs:=[.int .i64 v_0.Generation,lst Reader.cells v_0.Readers,lst cI v_0.Committed,lst cI v_0.Ends]) hS rfl rfl rfl (fun b1 h2 hS3=>?_)
 simp only [jy,zf1,B0,reduceIte,reduceEqDiff]
 refine jk (cs:=[.int .i64 v_1.Generation,lst Reader.cells v_1.Readers,lst cI v_1.Committed,lst cI v_1.Ends]) hS3 rfl rfl rfl (fun b5 h6 hS7=>?_)
 simp only [qd,qa,B0,reduceIte,reduceEqDiff]
 refine zu (Sep.m1 hS7) hW (by simp only [B0,reduceIte,reduceEqDiff]) (fun h9 hS10=>?_)
 refine zu hS10 hW (by simp only [B0,reduceIte,reduceEqDiff]) (fun h11 hS12=>?_)
 simp only [zp,qzt,qf,qe,qt,qb,Nat.reduceAdd,Nat.zero_add,Nat.add_zero,qq,qn,B0,reduceIte,reduceEqDiff]
 refine qj (v := .int .i64 v_0.Generation) rfl ?_
 simp only [qt,qb,Nat.reduceAdd,Nat.zero_add,Nat.add_zero,qq,qn,B0,reduceIte,reduceEqDiff]
 refine qj (v := .int .i64 v_1.Generation) rfl ?_
 simp only [q9,qb,wx,qd,B0,reduceIte,reduceEqDiff]
 obtain ⟨v16,hx17,hF18⟩:=qh hF
 refine z4 7 (fun fr' h'=>Sep h' (geL h.length) ([])∧fr' 20 = .bool v16∧fr' 2 = .ref [.int .i64 v_0.Generation,lst Reader.cells v_0.Readers,lst cI v_0.Committed,
   lst cI v_0.Ends] 0∧fr' 3 = .ref [.int .i64 v_1.Generation,lst Reader.cells v_1.Readers,lst cI v_1.Committed,lst cI v_1.Ends] 0) (fun Q13 hN14=>?_) ?_
 ·simp only [List.take_succ_cons,List.take_zero]
  simp only [qc (g:=13),B0,reduceIte,reduceEqDiff]
  refine q8 (t:=(decide (v_0.Generation≠v_1.Generation))) (fun hg15=>?_) (fun hg15=>?_)
  ·rw [iteT hg15] at hx17
   simp only [hg15,qc (g:=13),zy,qr,qb,zk,qa,qm,B0,reduceIte,reduceEqDiff]
   have e19:=qg hx17
   exact hN14 _ _ ⟨hS12,by rw [←e19]; simp only [B0,reduceIte,reduceEqDiff],rfl,rfl⟩
  ·rw [iteF hg15] at hx17
   simp only [hg15,qc (g:=13),qo,qt,qb,Nat.reduceAdd,Nat.zero_add,Nat.add_zero,qq,qn,B0,reduceIte,reduceEqDiff]
   refine qj (v:=lst cI v_0.Committed) rfl ?_
   simp only [hg15,qc (g:=13),qo,qt,qb,Nat.reduceAdd,Nat.zero_add,Nat.add_zero,qq,qn,B0,reduceIte,reduceEqDiff]
   refine qj (v:=lst cI v_1.Committed) rfl ?_
   obtain ⟨v20,hx21,hF22⟩:=qh hx17
   simp only [hg15,qc (g:=13),qo,qw,B0,reduceIte,reduceEqDiff]
   refine je rfl (qi ze (qi ze qy)) (x5 (fun b hb=>decide_eq_true hb) v_0.Committed v_1.Committed v20 hx21) ?_
   simp only [hg15,qc (g:=13),qo,jf,qb,jt,qr,zj,qa,qm,B0,reduceIte,reduceEqDiff]
   have e23:=qg hF22
   exact hN14 _ _ ⟨hS12,by rw [←e23]; simp only [B0,reduceIte,reduceEqDiff],rfl,rfl⟩
 rintro fr24 h28 ⟨hS29,f25,f26,f27⟩
 simp only [List.drop_succ_cons,List.drop_zero]
 simp only [f25,qd,B0,reduceIte,reduceEqDiff]
 obtain ⟨v33,hx34,hF35⟩:=qh hF18
 refine z4 7 (fun fr' h'=>Sep h' (geL h.length) ([])∧fr' 28 = .bool v33∧fr' 2 = .ref [.int .i64 v_0.Generation,lst Reader.cells v_0.Readers,lst cI v_0.Committed,
   lst cI v_0.Ends] 0∧fr' 3 = .ref [.int .i64 v_1.Generation,lst Reader.cells v_1.Readers,lst cI v_1.Committed,lst cI v_1.Ends] 0) (fun Q30 hN31=>?_) ?_
 ·simp only [List.take_succ_cons,List.take_zero]
  simp only [qc (g:=21),B0,reduceIte,reduceEqDiff]
  refine q8 (t:=v16) (fun hg32=>?_) (fun hg32=>?_)
  ·rw [iteT hg32] at hx34
   simp only [hg32,qc (g:=21),zy,qr,qb,zk,qa,qm,B0,reduceIte,reduceEqDiff]
   have e36:=qg hx34
   exact hN31 _ _ ⟨hS29,by rw [←e36]; simp only [B0,reduceIte,reduceEqDiff],f26,f27⟩
  ·rw [iteF hg32] at hx34
   simp only [hg32,qc (g:=21),qo,f26,qt,qb,Nat.reduceAdd,Nat.zero_add,Nat.add_zero,qq,qn,B0,reduceIte,reduceEqDiff]
   refine qj (v:=lst cI v_0.Ends) rfl ?_
   simp only [hg32,qc (g:=21),qo,f27,qt,qb,Nat.reduceAdd,Nat.zero_add,Nat.add_zero,qq,qn,B0,reduceIte,reduceEqDiff]
   refine qj (v:=lst cI v_1.Ends) rfl ?_
   obtain ⟨v37,hx38,hF39⟩:=qh hx34
   simp only [hg32,qc (g:=21),qo,qw,B0,reduceIte,reduceEqDiff]
   refine je rfl (qi ze (qi ze qy)) (x5 (fun b hb=>decide_eq_true hb) v_0.Ends v_1.Ends v37 hx38) ?_
   simp only [hg32,qc (g:=21),qo,jf,qb,jt,qr,zj,qa,qm,B0,reduceIte,reduceEqDiff]
   have e40:=qg hF39
   exact hN31 _ _ ⟨hS29,by rw [←e40]; simp only [B0,reduceIte,reduceEqDiff],f26,f27⟩
 rintro fr41 h45 ⟨hS46,f42,f43,f44⟩
 simp only [List.drop_succ_cons,List.drop_zero]
 simp only [f42,qd,B0,reduceIte,reduceEqDiff]
 refine z4 8 (fun fr' h'=>Sep h' (geL h.length) ([])∧fr' 37 = .bool (v33||(decide ((List.length v_0.Readers:Int) ≠
   (List.length v_1.Readers:Int))))∧fr' 2 = .ref [.int .i64 v_0.Generation,lst Reader.cells v_0.Readers,lst cI v_0.Committed,
   lst cI v_0.Ends] 0∧fr' 3 = .ref [.int .i64 v_1.Generation,lst Reader.cells v_1.Readers,lst cI v_1.Committed,lst cI v_1.Ends] 0) (fun Q47 hN48=>?_) ?_
 ·simp only [List.take_succ_cons,List.take_zero]
  simp only [qc (g:=29),B0,reduceIte,reduceEqDiff]
  refine q8 (t:=v33) (fun hg49=>?_) (fun hg49=>?_)
  ·simp only [hg49,qc (g:=29),zy,qr,qb,zk,qa,qm,B0,reduceIte,reduceEqDiff]
   exact hN48 _ _ ⟨hS46,by rw [orT hg49]; simp only [B0,reduceIte,reduceEqDiff],f43,f44⟩
  ·simp only [hg49,qc (g:=29),qo,f43,qt,qb,Nat.reduceAdd,Nat.zero_add,Nat.add_zero,qq,qn,B0,reduceIte,reduceEqDiff]
   refine qj (v:=lst Reader.cells v_0.Readers) rfl ?_
   simp only [hg49,qc (g:=29),qo,zo,qb,zr,f44,qt,Nat.reduceAdd,Nat.zero_add,Nat.add_zero,qq,qn,B0,reduceIte,
     reduceEqDiff]
   refine qj (v:=lst Reader.cells v_1.Readers) rfl ?_
   simp only [hg49,qc (g:=29),qo,zo,qb,zr,q9,wx,qr,zj,qa,qm,B0,reduceIte,reduceEqDiff]
   exact hN48 _ _ ⟨hS46,by rw [orF hg49]; simp only [B0,reduceIte,reduceEqDiff],f43,f44⟩
 rintro fr50 h54 ⟨hS55,f51,f52,f53⟩
 simp only [List.drop_succ_cons,List.drop_zero]
 simp only [qa,f51,za,B0,reduceIte,reduceEqDiff]
 refine qz (t:=(v33||(decide ((List.length v_0.Readers:Int)≠(List.length v_1.Readers:Int))))) (fun hc56=>?_) (fun hc56=>?_)
 ·rw [iteT hc56] at hF35
  simp only [qf,qe,qd,qa,qx,B0,reduceIte,reduceEqDiff]
  have he:=qg hF35
  subst he
  simp only [zi,B0,reduceIte,reduceEqDiff]
  exact rfl
 rw [iteF hc56] at hF35
 simp only [zh,qvc,qf,qe,f52,qt,qb,Nat.reduceAdd,Nat.zero_add,Nat.add_zero,qq,qn,B0,reduceIte,reduceEqDiff]
 refine qj (v:=lst Reader.cells v_0.Readers) rfl ?_
 simp only [zo,qb,zr,qd,qa,B0,reduceIte,reduceEqDiff]
 obtain ⟨oc59,hX61,hk62⟩:=jj hF35
 simp only [qzv]
 refine qbr (σ:=Unit) (fun i57 _=>qaj v_0 v_1 i57 ) (fun s fr' h'=>fr' 2 = .ref [.int .i64 v_0.Generation,lst Reader.cells v_0.Readers,
   lst cI v_0.Committed,lst cI v_0.Ends] 0∧fr' 3 = .ref [.int .i64 v_1.Generation,lst Reader.cells v_1.Readers,lst cI v_1.Committed,
   lst cI v_1.Ends] 0∧Sep h' (geL h.length) ([])) hX61 ⟨f52,f53,hS55⟩ (by simp only [B0,reduceIte,reduceEqDiff]) (by simp only [B0,reduceIte,
   reduceEqDiff]) (fun _ _ _ h=>h) rfl rfl (fun _ _ _ _ h=>h) (fun _ _ _ _ h=>h) (fun _ _ _ _ h=>h) (by decide) ?_ ?_
 ·rintro i57 _ fr71 h72 hx76 ⟨f74,f75,hS73⟩ f77 f78 oc60 hF63 hr64 Q65 hN66 hB70 hK67 hR68 hE69
  unfold qaj at hF63
  simp only [qx4,qf,qe,f77,qd,qa,qyi,f74,qt,qb,Nat.reduceAdd,Nat.zero_add,Nat.add_zero,qq,qn,B0,reduceIte,
    reduceEqDiff]
  refine qj (v:=lst Reader.cells v_0.Readers) rfl ?_
  obtain ⟨x79,hx80,hF81⟩:=qh hF63
  simp only [qd,jo,B0,reduceIte,reduceEqDiff]
  refine qj (v := .ref (Reader.cells x79) 0) (wu hx80 rfl) ?_
  simp only [qn,B0,reduceIte,reduceEqDiff]
  refine qj (v := .agg [.bool x79.In,.int .i64 x79.Generation,lst cI x79.Share,lst cI x79.Read]) rfl ?_
  simp only [ja,B0,reduceIte,reduceEqDiff]
  refine zw hS73 (fun b82 h83 hS84=>?_)
  simp only [zn,B0,reduceIte,reduceEqDiff]
  refine zd (us:=[.bool x79.In,.int .i64 x79.Generation,lst cI x79.Share,lst cI x79.Read]) rfl (cs':=[.bool x79.In,.int .i64 x79.Generation,lst cI x79.Share,
    lst cI x79.Read]) hS84 hW rfl rfl (Nat.le_of_ble_eq_true rfl) rfl (fun h86 hS87=>?_)
  simp only [qa,B0,reduceIte,reduceEqDiff]
  refine zu hS87 hW (by simp only [B0,reduceIte,reduceEqDiff]) (fun h88 hS89=>?_)
  simp only [zp,qyz,qf,qe,f75,qt,qb,Nat.reduceAdd,Nat.zero_add,Nat.add_zero,qq,qn,B0,reduceIte,reduceEqDiff]
  refine qj (v:=lst Reader.cells v_1.Readers) rfl ?_
  obtain ⟨x90,hx91,hF92⟩:=qh hF81
  simp only [qd,jo,B0,reduceIte,reduceEqDiff]
  refine qj (v := .ref (Reader.cells x90) 0) (wu hx91 rfl) ?_
  simp only [qn,B0,reduceIte,reduceEqDiff]
  refine qj (v := .agg [.bool x90.In,.int .i64 x90.Generation,lst cI x90.Share,lst cI x90.Read]) rfl ?_
  simp only [ja,B0,reduceIte,reduceEqDiff]
  refine zw hS89 (fun b93 h94 hS95=>?_)
  simp only [zn,B0,reduceIte,reduceEqDiff]
  refine zd (us:=[.bool x90.In,.int .i64 x90.Generation,lst cI x90.Share,lst cI x90.Read]) rfl (cs':=[.bool x90.In,.int .i64 x90.Generation,lst cI x90.Share,
    lst cI x90.Read]) hS95 hW rfl rfl (Nat.le_of_ble_eq_true rfl) rfl (fun h97 hS98=>?_)
  simp only [qa,B0,reduceIte,reduceEqDiff]
  refine zu hS98 hW (by simp only [B0,reduceIte,reduceEqDiff]) (fun h99 hS100=>?_)
  simp only [zp,q06,qf,qe,qt,qb,Nat.reduceAdd,Nat.zero_add,Nat.add_zero,qq,qn,B0,reduceIte,reduceEqDiff]
  refine qj (v := .bool x79.In) rfl ?_
  simp only [qt,qb,Nat.reduceAdd,Nat.zero_add,Nat.add_zero,qq,qn,B0,reduceIte,reduceEqDiff]
  refine qj (v := .bool x90.In) rfl ?_
  simp only [qfj,qb,qjs,qd,B0,reduceIte,reduceEqDiff]
  refine z4 6 (fun fr' h'=>Sep h' (geL h.length) ([])∧fr' 65 = .bool ((!(x79.In == x90.In))||(decide
    (x79.Generation≠x90.Generation)))∧fr' 2 = .ref [.int .i64 v_0.Generation,lst Reader.cells v_0.Readers,lst cI v_0.Committed,
    lst cI v_0.Ends] 0∧fr' 3 = .ref [.int .i64 v_1.Generation,lst Reader.cells v_1.Readers,lst cI v_1.Committed,lst cI v_1.Ends] 0∧fr' 6 = .ref [.bool x79.In,
    .int .i64 x79.Generation,lst cI x79.Share,lst cI x79.Read] 0∧fr' 7 = .ref [.bool x90.In,.int .i64 x90.Generation,lst cI x90.Share,
    lst cI x90.Read] 0∧fr' 40 = .int .i64 (List.length v_0.Readers:Int)∧fr' 41 = .int .i64 (i57:Int)) (fun Q101 hN102=>?_) ?_
  ·simp only [List.take_succ_cons,List.take_zero]
   simp only [qc (g:=59),B0,reduceIte,reduceEqDiff]
   refine q8 (t:=(!(x79.In == x90.In))) (fun hg103=>?_) (fun hg103=>?_)
   ·simp only [hg103,qc (g:=59),zy,qr,qb,zk,qa,qm,B0,reduceIte,reduceEqDiff]
    exact hN102 _ _ ⟨hS100,by rw [orT hg103]; simp only [B0,reduceIte,reduceEqDiff],f74,f75,rfl,rfl,f78,f77⟩
   ·simp only [hg103,qc (g:=59),qo,qt,qb,Nat.reduceAdd,Nat.zero_add,Nat.add_zero,qq,qn,B0,reduceIte,reduceEqDiff]
    refine qj (v := .int .i64 x79.Generation) rfl ?_
    simp only [hg103,qc (g:=59),qo,qt,qb,Nat.reduceAdd,Nat.zero_add,Nat.add_zero,qq,qn,B0,reduceIte,reduceEqDiff]
    refine qj (v := .int .i64 x90.Generation) rfl ?_
    simp only [hg103,qc (g:=59),qo,q9,qb,wx,qr,zj,qa,qm,B0,reduceIte,reduceEqDiff]
    exact hN102 _ _ ⟨hS100,by rw [orF hg103]; simp only [B0,reduceIte,reduceEqDiff],f74,f75,rfl,rfl,f78,f77⟩
  rintro fr104 h112 ⟨hS113,f105,f106,f107,f108,f109,f110,f111⟩
  simp only [List.drop_succ_cons,List.drop_zero]
  simp only [f105,qd,B0,reduceIte,reduceEqDiff]
  obtain ⟨v117,hx118,hF119⟩:=qh hF92
  refine z4 7 (fun fr' h'=>Sep h' (geL h.length) ([])∧fr' 73 = .bool v117∧fr' 2 = .ref [.int .i64 v_0.Generation,lst Reader.cells v_0.Readers,lst cI v_0.Committed,
    lst cI v_0.Ends] 0∧fr' 3 = .ref [.int .i64 v_1.Generation,lst Reader.cells v_1.Readers,lst cI v_1.Committed,lst cI v_1.Ends] 0∧fr' 6 = .ref [.bool x79.In,
    .int .i64 x79.Generation,lst cI x79.Share,lst cI x79.Read] 0∧fr' 7 = .ref [.bool x90.In,.int .i64 x90.Generation,lst cI x90.Share,
    lst cI x90.Read] 0∧fr' 40 = .int .i64 (List.length v_0.Readers:Int)∧fr' 41 = .int .i64 (i57:Int)) (fun Q114 hN115=>?_) ?_
  ·simp only [List.take_succ_cons,List.take_zero]
   simp only [qc (g:=66),B0,reduceIte,reduceEqDiff]
   refine q8 (t:=((!(x79.In == x90.In))||(decide (x79.Generation≠x90.Generation)))) (fun hg116=>?_) (fun hg116=>?_)
   ·rw [iteT hg116] at hx118
    simp only [hg116,qc (g:=66),zy,qr,qb,zk,qa,qm,B0,reduceIte,reduceEqDiff]
    have e120:=qg hx118
    exact hN115 _ _ ⟨hS113,by rw [←e120]; simp only [B0,reduceIte,reduceEqDiff],f106,f107,f108,f109,f110,f111⟩
   ·rw [iteF hg116] at hx118
    simp only [hg116,qc (g:=66),qo,f108,qt,qb,Nat.reduceAdd,Nat.zero_add,Nat.add_zero,qq,qn,B0,reduceIte,reduceEqDiff]
    refine qj (v:=lst cI x79.Share) rfl ?_
    simp only [hg116,qc (g:=66),qo,f109,qt,qb,Nat.reduceAdd,Nat.zero_add,Nat.add_zero,qq,qn,B0,reduceIte,reduceEqDiff]
    refine qj (v:=lst cI x90.Share) rfl ?_
    obtain ⟨v121,hx122,hF123⟩:=qh hx118
    simp only [hg116,qc (g:=66),qo,qw,B0,reduceIte,reduceEqDiff]
    refine je rfl (qi ze (qi ze qy)) (x5 (fun b hb=>decide_eq_true hb) x79.Share x90.Share v121 hx122) ?_
    simp only [hg116,qc (g:=66),qo,jf,qb,jt,qr,zj,qa,qm,B0,reduceIte,reduceEqDiff]
    have e124:=qg hF123
    exact hN115 _ _ ⟨hS113,by rw [←e124]; simp only [B0,reduceIte,reduceEqDiff],f106,f107,f108,f109,f110,f111⟩
  rintro fr125 h133 ⟨hS134,f126,f127,f128,f129,f130,f131,f132⟩
  simp only [List.drop_succ_cons,List.drop_zero]
  simp only [f126,qd,B0,reduceIte,reduceEqDiff]
  obtain ⟨v138,hx139,hF140⟩:=qh hF119
  refine z4 7 (fun fr' h'=>Sep h' (geL h.length) ([])∧fr' 81 = .bool v138∧fr' 2 = .ref [.int .i64 v_0.Generation,lst Reader.cells v_0.Readers,lst cI v_0.Committed,
    lst cI v_0.Ends] 0∧fr' 3 = .ref [.int .i64 v_1.Generation,lst Reader.cells v_1.Readers,lst cI v_1.Committed,
    lst cI v_1.Ends] 0∧fr' 40 = .int .i64 (List.length v_0.Readers:Int)∧fr' 41 = .int .i64 (i57:Int)) (fun Q135 hN136=>?_) ?_
  ·simp only [List.take_succ_cons,List.take_zero]
   simp only [qc (g:=74),B0,reduceIte,reduceEqDiff]
   refine q8 (t:=v117) (fun hg137=>?_) (fun hg137=>?_)
   ·rw [iteT hg137] at hx139
    simp only [hg137,qc (g:=74),zy,qr,qb,zk,qa,qm,B0,reduceIte,reduceEqDiff]
    have e141:=qg hx139
    exact hN136 _ _ ⟨hS134,by rw [←e141]; simp only [B0,reduceIte,reduceEqDiff],f127,f128,f131,f132⟩
   ·rw [iteF hg137] at hx139
    simp only [hg137,qc (g:=74),qo,f129,qt,qb,Nat.reduceAdd,Nat.zero_add,Nat.add_zero,qq,qn,B0,reduceIte,reduceEqDiff]
    refine qj (v:=lst cI x79.Read) rfl ?_
    simp only [hg137,qc (g:=74),qo,f130,qt,qb,Nat.reduceAdd,Nat.zero_add,Nat.add_zero,qq,qn,B0,reduceIte,reduceEqDiff]
    refine qj (v:=lst cI x90.Read) rfl ?_
    obtain ⟨v142,hx143,hF144⟩:=qh hx139
    simp only [hg137,qc (g:=74),qo,qw,B0,reduceIte,reduceEqDiff]
    refine je rfl (qi ze (qi ze qy)) (x5 (fun b hb=>decide_eq_true hb) x79.Read x90.Read v142 hx143) ?_
    simp only [hg137,qc (g:=74),qo,jf,qb,jt,qr,zj,qa,qm,B0,reduceIte,reduceEqDiff]
    have e145:=qg hF144
    exact hN136 _ _ ⟨hS134,by rw [←e145]; simp only [B0,reduceIte,reduceEqDiff],f127,f128,f131,f132⟩
  rintro fr146 h152 ⟨hS153,f147,f148,f149,f150,f151⟩
  simp only [List.drop_succ_cons,List.drop_zero]
  simp only [qa,f147,za,B0,reduceIte,reduceEqDiff]
  refine qz (t:=v138) (fun hc154=>?_) (fun hc154=>?_)
  ·rw [iteT hc154] at hF140
   simp only [qf,qe,qd,qa,qx,B0,reduceIte,reduceEqDiff]
   have e155:=qg hF140
   subst e155
   have ho156:=hr64 _ rfl
   have hk157:=hk62
   rw [ho156] at hk157
   dsimp only [jnO] at hk157
   apply hR68
   have he:=qg hk157
   subst he
   simp only [zi,B0,reduceIte,reduceEqDiff]
   exact rfl
  rw [iteF hc154] at hF140
  simp only [zh,qm,B0,reduceIte,reduceEqDiff]
  have e158:=qg hF140
  exact hN66 _ _ _ e158.symm ⟨f148,f149,hS153⟩ (f151) (f150)
 rintro _ fr160 h161 rfl ⟨f163,f164,hS162⟩
 dsimp only [jnO] at hk62
 unfold qd2 at hk62
 simp only [qf,qe,qd,qa,qx,B0,reduceIte,reduceEqDiff]
 have he:=qg hk62
 subst he
 simp only [zi,B0,reduceIte,reduceEqDiff]
 exact rfl
theorem uv {W:Nat→Bool}{h:Heap} (hW:∀ b,
  (geL h.length) b→W b=true) (n_0:Int) (low_1:Int) (high_2:Int) (r:Bool) (hF:some (zq n_0 low_1 high_2)=some r) : Ret E W 71 [.int .i64 n_0,
  .int .i64 low_1,.int .i64 high_2] h (fun v h'=>cut h.length h' E.sz false 9 v=some (.bool r)):=by
 refine Ret.of (fn:=x71) rfl (Run.of ?_)
 unfold zq at hF
 have zf0:zb [.int .i64 n_0,.int .i64 low_1,.int .i64 high_2] 0 = .int .i64 n_0:=rfl
 have zf1:zb [.int .i64 n_0,.int .i64 low_1,.int .i64 high_2] 1 = .int .i64 low_1:=rfl
 have zf2:zb [.int .i64 n_0,.int .i64 low_1,.int .i64 high_2] 2 = .int .i64 high_2:=rfl
 generalize zb [.int .i64 n_0,.int .i64 low_1,.int .i64 high_2]=fr0 at zf0 zf1 zf2 ⊢
 have hS:Sep h (geL h.length) []:=Sep.nil h
 simp only [x71,qf,qe,qd,qa,qyu,zf0,zf1,q9,qb,qd5,B0,reduceIte,reduceEqDiff]
 refine z4 4 (fun fr' h'=>Sep h' (geL h.length) ([])∧fr' 14 = .bool ((decide (low_1≤n_0))&&(decide (n_0≤high_2)))) (fun Q1 hN2=>?_) ?_
 ·simp only [List.take_succ_cons,List.take_zero]
  simp only [qc (g:=10),B0,reduceIte,reduceEqDiff]
  refine q8 (t:=(decide (low_1≤n_0))) (fun hg3=>?_) (fun hg3=>?_)
  ·simp only [hg3,qc (g:=10),zf,zf0,qd,zf2,q9,qb,qn1,qr,zk,qa,qm,B0,reduceIte,reduceEqDiff]
   exact hN2 _ _ ⟨hS,by rw [xj hg3]; simp only [B0,reduceIte,reduceEqDiff]⟩
  ·simp only [hg3,qc (g:=10),jh,qr,qb,zj,qa,qm,B0,reduceIte,reduceEqDiff]
   exact hN2 _ _ ⟨hS,by rw [xy hg3]; simp only [B0,reduceIte,reduceEqDiff]⟩
 rintro fr4 h6 ⟨hS7,f5⟩
 simp only [List.drop_succ_cons,List.drop_zero]
 simp only [f5,qd,qa,qx,B0,reduceIte,reduceEqDiff]
 have he:=qg hF
 subst he
 simp only [zi,B0,reduceIte,reduceEqDiff]
 exact rfl
theorem qgh {W:Nat→Bool}{h:Heap} (hW:∀ b,
  (geL h.length) b→W b=true) (s_0:List Int) {g1:Nat} {caps1:List XV} (hm1:E.mode g1=1) (f_1:Int→Option Bool) (hf1:∀ (W:Nat→Bool) (h:Heap),(∀ b,
  h.length≤b→W b=true)→∀ a0 r,f_1 a0=some r→Ret E W g1 ([.int .i64 a0]++caps1) h (fun v h'=>cut h.length h' E.sz false 9 v=some (.bool r))) (r:Int)
  (hF:k9 s_0 f_1=some r) : Ret E W 89 [lst cI s_0,.fn g1 caps1] h (fun v h'=>cut h.length h' E.sz false 9 v=some (.int .i64 r)):=by
 refine Ret.of (fn:=x89) rfl (Run.of ?_)
 unfold k9 at hF
 have zf0:zb [lst cI s_0,.fn g1 caps1] 0=lst cI s_0:=rfl
 have zf1:zb [lst cI s_0,.fn g1 caps1] 1 = .fn g1 caps1:=rfl
 generalize zb [lst cI s_0,.fn g1 caps1]=fr0 at zf0 zf1 ⊢
 have hS:Sep h (geL h.length) []:=Sep.nil h
 simp only [x89,qf,qe,qd,qa,qx6,zf0,zo,qb,zr,B0,reduceIte,reduceEqDiff]
 obtain ⟨oc3,hX5,hk6⟩:=jj hF
 simp only [qus]
 refine j8 (σ:=Unit) s_0 (fun i1 x2 _=>kq f_1 i1 x2 ) (fun s fr' h'=>fr' 0=lst cI s_0∧fr' 1 = .fn g1 caps1∧Sep h' (geL h.length)
   ([])) hX5 ⟨zf0,zf1,hS⟩ (by simp only [B0,reduceIte,reduceEqDiff]) (by simp only [B0,reduceIte,
   reduceEqDiff]) (fun _ _ _ h=>h) rfl rfl (fun _ _ _ _ h=>h) (fun _ _ _ _ h=>h) (fun _ _ _ _ h=>h) (by decide) ?_ ?_
 ·rintro i1 x2 _ fr15 h16 hx20 ⟨f18,f19,hS17⟩ f21 f22 oc4 hF7 hr8 Q9 hN10 hB14 hK11 hR12 hE13
  unfold kq at hF7
  simp only [q0e,qf,qe,f21,qd,qa,qx2,f19,f18,jo,B0,reduceIte,reduceEqDiff]
  refine qj (v := .ref (cI x2) 0) (j7 hx20 rfl) ?_
  simp only [qn,B0,reduceIte,reduceEqDiff]
  refine qj (v := .int .i64 x2) rfl ?_
  obtain ⟨v23,hx24,hF25⟩:=qh hF7
  simp only [qw,B0,reduceIte,reduceEqDiff]
  refine je hm1 (qi qs qy) (hf1 _ _ (fun b hb=>decide_eq_true hb) x2 v23 hx24) ?_
  simp only [qa,q1s,za,B0,reduceIte,reduceEqDiff]
  refine qz (t:=v23) (fun hc26=>?_) (fun hc26=>?_)
  ·rw [iteT hc26] at hF25
   simp only [qf,qe,qd,qa,qx,B0,reduceIte,reduceEqDiff]
   have e27:=qg hF25
   subst e27
   have ho28:=hr8 _ rfl
   have hk29:=hk6
   rw [ho28] at hk29
   dsimp only [jnO] at hk29
   apply hR12
   have he:=qg hk29
   subst he
   simp only [zi,B0,reduceIte,reduceEqDiff]
   exact rfl
  rw [iteF hc26] at hF25
  simp only [zh,qm,B0,reduceIte,reduceEqDiff]
  have e30:=qg hF25
  exact hN10 _ _ _ e30.symm ⟨f18,f19,hS17⟩ (f21) (f22)
 rintro _ fr32 h33 rfl ⟨f35,f36,hS34⟩
 dsimp only [jnO] at hk6
 unfold qcx at hk6
 simp only [qf,qe,qd,qa,qx,B0,reduceIte,reduceEqDiff]
 have he:=qg hk6
 subst he
 simp only [zi,B0,reduceIte,reduceEqDiff]
 exact rfl
theorem qfa {W:Nat→Bool}{h:Heap} (hW:∀ b,
  (geL h.length) b→W b=true) (s_0:List Int) {g1:Nat} {caps1:List XV} (hm1:E.mode g1=1) (f_1:Int→Option Bool) (hf1:∀ (W:Nat→Bool) (h:Heap),(∀ b,
  h.length≤b→W b=true)→∀ a0 r,f_1 a0=some r→Ret E W g1 ([.int .i64 a0]++caps1) h (fun v h'=>cut h.length h' E.sz false 9 v=some (.bool r))) (r:Bool)
  (hF:ko s_0 f_1=some r) : Ret E W 79 [lst cI s_0,.fn g1 caps1] h (fun v h'=>cut h.length h' E.sz false 9 v=some (.bool r)):=by
 refine Ret.of (fn:=x79) rfl (Run.of ?_)
 unfold ko at hF
 have zf0:zb [lst cI s_0,.fn g1 caps1] 0=lst cI s_0:=rfl
 have zf1:zb [lst cI s_0,.fn g1 caps1] 1 = .fn g1 caps1:=rfl
 generalize zb [lst cI s_0,.fn g1 caps1]=fr0 at zf0 zf1 ⊢
 have hS:Sep h (geL h.length) []:=Sep.nil h
 obtain ⟨v1,hx2,hF3⟩:=qh hF
 simp only [x79,qf,qe,qd,qa,qwd,zf0,zf1,qw,B0,reduceIte,reduceEqDiff]
 refine je rfl (qi ze (qi qjz qy)) (qgh (fun b hb=>decide_eq_true hb) s_0 (g1:=g1) (caps1:=caps1) hm1 f_1 hf1 v1 hx2) ?_
 simp only [q9,qb,qd5,qd,qa,qx,B0,reduceIte,reduceEqDiff]
 have he:=qg hF3
 subst he
 simp only [zi,B0,reduceIte,reduceEqDiff]
 exact rfl
theorem qhm {W:Nat→Bool}{h:Heap} (hW:∀ b,
  (geL h.length) b→W b=true) (e_0:Int) (r:Bool) (hF:some (yf e_0)=some r) : Ret E W 80 [.int .i64 e_0] h
  (fun v h'=>cut h.length h' E.sz false 9 v=some (.bool r)):=by
 refine Ret.of (fn:=x80) rfl (Run.of ?_)
 unfold yf at hF
 have zf0:zb [.int .i64 e_0] 0 = .int .i64 e_0:=rfl
 generalize zb [.int .i64 e_0]=fr0 at zf0 ⊢
 have hS:Sep h (geL h.length) []:=Sep.nil h
 simp only [x80,qf,qe,qd,qa,qu4,zf0,qw,B0,reduceIte,reduceEqDiff]
 refine je rfl (qi qs (qi qs (qi qs qy))) (uv (fun b hb=>decide_eq_true hb) e_0 0 100 _ rfl) ?_
 simp only [jf,qb,jt,qd,qa,qx,B0,reduceIte,reduceEqDiff]
 have he:=qg hF
 subst he
 simp only [zi,B0,reduceIte,reduceEqDiff]
 exact rfl
theorem qe6 {W:Nat→Bool}{h:Heap} (hW:∀ b,
  (geL h.length) b→W b=true) (readers_0:Int) (ends_1:List Int) (r:Readers_ × Bool) (hF:ki readers_0 ends_1=some r) : Ret E W 51 [.int .i64 readers_0,
  lst cI ends_1] h (fun v h'=>∃ rv0_1 rc0_1 rv0_2 rc0_2 rv0_3 rc0_3,v = .tup [.agg [.int .i64 r.1.Generation,rv0_1,rv0_2,rv0_3],
  .bool r.2]∧SlN Reader.R 4 37 rv0_1 r.1.Readers rc0_1∧SlF cI 1 3 rv0_2 r.1.Committed rc0_2∧SlF cI 1 3 rv0_3 r.1.Ends rc0_3∧Sep h' (geL h.length) (rc0_1++(rc0_2 ++
  (rc0_3++([]))))):=by
 refine Ret.of (fn:=x51) rfl (Run.of ?_)
 unfold ki at hF
 have zf0:zb [.int .i64 readers_0,lst cI ends_1] 0 = .int .i64 readers_0:=rfl
 have zf1:zb [.int .i64 readers_0,lst cI ends_1] 1=lst cI ends_1:=rfl
 generalize zb [.int .i64 readers_0,lst cI ends_1]=fr0 at zf0 zf1 ⊢
 have hS:Sep h (geL h.length) []:=Sep.nil h
 simp only [x51,qf,qe,ja,B0,reduceIte,reduceEqDiff]
 refine zw hS (fun b1 h2 hS3=>?_)
 simp only [qd,qa,qu5,qf,qe,zf0,qw,B0,reduceIte,reduceEqDiff]
 refine je rfl (qi qs (qi qs (qi qs qy))) (uv (fun b hb=>decide_eq_true hb) readers_0 1 5 _ rfl) ?_
 simp only [jf,qb,jt,qd,B0,reduceIte,reduceEqDiff]
 refine z4 5 (fun fr' h'=>Sep h' (geL h.length) ([Blk1 b1 [.int .i64 0,.nil,.nil,
   .nil] 29]++([]))∧fr' 15 = .bool ((!(zq readers_0 1 5))||(!(zq
   (List.length ends_1:Int) 1 6)))∧fr' 0 = .int .i64 readers_0∧fr' 1=lst cI ends_1∧fr' 4 = .ptr b1 0) (fun Q5 hN6=>?_) ?_
 ·simp only [List.take_succ_cons,List.take_zero]
  simp only [qc (g:=10),B0,reduceIte,reduceEqDiff]
  refine q8 (t:=(!(zq readers_0 1 5))) (fun hg7=>?_) (fun hg7=>?_)
  ·simp only [hg7,qc (g:=10),zy,qr,qb,zk,qa,qm,B0,reduceIte,reduceEqDiff]
   exact hN6 _ _ ⟨hS3,by rw [orT hg7]; simp only [B0,reduceIte,reduceEqDiff],zf0,zf1,rfl⟩
  ·simp only [hg7,qc (g:=10),qo,zf1,qd,zo,qb,zr,qw,B0,reduceIte,reduceEqDiff]
   refine je rfl (qi qs (qi qs (qi qs qy))) (uv (fun b hb=>decide_eq_true hb) (List.length ends_1:Int) 1 6 _ rfl) ?_
   simp only [hg7,qc (g:=10),qo,jf,qb,jt,qr,zj,qa,qm,B0,reduceIte,reduceEqDiff]
   exact hN6 _ _ ⟨hS3,by rw [orF hg7]; simp only [B0,reduceIte,reduceEqDiff],zf0,zf1,rfl⟩
 rintro fr8 h13 ⟨hS14,f9,f10,f11,f12⟩
 simp only [List.drop_succ_cons,List.drop_zero]
 simp only [f9,qd,B0,reduceIte,reduceEqDiff]
 obtain ⟨v18,hx19,hF20⟩:=qh hF
 refine z4 3 (fun fr' h'=>Sep h' (geL h.length) ([Blk1 b1 [.int .i64 0,.nil,.nil,
   .nil] 29]++([]))∧fr' 19 = .bool v18∧fr' 0 = .int .i64 readers_0∧fr' 1=lst cI ends_1∧fr' 4 = .ptr b1 0) (fun Q15 hN16=>?_) ?_
 ·simp only [List.take_succ_cons,List.take_zero]
  simp only [qc (g:=16),B0,reduceIte,reduceEqDiff]
  refine q8 (t:=((!(zq readers_0 1 5))||(!(zq (List.length ends_1:Int) 1 6)))) (fun hg17=>?_) (fun hg17=>?_)
  ·rw [iteT hg17] at hx19
   simp only [hg17,qc (g:=16),zy,qr,qb,zk,qa,qm,B0,reduceIte,reduceEqDiff]
   have e21:=qg hx19
   exact hN16 _ _ ⟨hS14,by rw [←e21]; simp only [B0,reduceIte,reduceEqDiff],f10,f11,f12⟩
  ·rw [iteF hg17] at hx19
   obtain ⟨v22,hx23,hF24⟩:=qh hx19
   simp only [hg17,qc (g:=16),qo,f11,qd,qw,B0,reduceIte,reduceEqDiff]
   refine je rfl (qi ze (qi qjz qy)) (qfa (fun b hb=>decide_eq_true hb) ends_1 (g1:=80) (caps1:=[]) rfl (fun a0=>some
     (yf a0)) (fun W h hW a0 r hr=>qhm hW a0 r hr) v22 hx23) ?_
   simp only [hg17,qr,qb,zj,qa,qm,B0,reduceIte,reduceEqDiff]
   have e25:=qg hF24
   exact hN16 _ _ ⟨hS14,by rw [←e25]; simp only [B0,reduceIte,reduceEqDiff],f10,f11,f12⟩
 rintro fr26 h31 ⟨hS32,f27,f28,f29,f30⟩
 simp only [List.drop_succ_cons,List.drop_zero]
 simp only [qa,q1g,f27,za,B0,reduceIte,reduceEqDiff]
 refine qz (t:=v18) (fun hc33=>?_) (fun hc33=>?_)
 ·rw [iteT hc33] at hF20
  simp only [qf,qe,run_build,evp,B0,reduceIte,reduceEqDiff]
  refine qj (v := .agg [.int .i64 0,.nil,.nil,.nil]) rfl ?_
  simp only [f30,zn,B0,reduceIte,reduceEqDiff]
  refine zd (us:=[.int .i64 0,.nil,.nil,.nil]) rfl (cs':=[.int .i64 0,.nil,.nil,.nil]) hS32 hW rfl rfl (Nat.le_of_ble_eq_true rfl) rfl (fun h34 hS35=>?_)
  simp only [qd,qa,qx,B0,reduceIte,reduceEqDiff]
  have he:=qg hF20
  subst he
  refine ka (qi (kg (bb:=b1) (oo:=0) (v := .agg [.int .i64 0,.nil,.nil,
    .nil]) (f30) ((z7 (Sep.bk _ _ _ hS35)).trans rfl)) (qi (wz (v := .bool false) (rfl)) qy)) ?_
  exact ⟨.nil,[],.nil,[],.nil,[],by first | trivial | rfl,SlN.nil,SlF.nil,SlF.nil,((Sep.dc (hS35)) : Sep _ (geL h.length) ([]))⟩
 rw [iteF hc33] at hF20
 obtain ⟨l36,hx37,hF38⟩:=qh hF20
 simp only [zh,qyq,qf,jc,f29,qk5,ql,qr6,zr,qqe,B0,reduceIte,reduceEqDiff]
 refine qdr (f:=cI) (z:=(0:Int)) hS32 hx37 rfl (fun v39 c40 h41 hv42 hS43=>?_)
 simp only [qdg,evp,B0,reduceIte,reduceEqDiff]
 refine qaq (n:=1) (f:=cI) ([] : List Int) hS43 rfl rfl (fun v45 c46 h47 hv48 hS49=>?_)
 simp only [qgn,B0,reduceIte,reduceEqDiff]
 refine qcp hS49 (fun b51 h52 hS53=>?_)
 simp only [f29,z8,ql,qjp,B0,reduceIte,reduceEqDiff]
 obtain ⟨l55,hx56,hF57⟩:=qh hF38
 refine qct (f:=cI) hv48 (Sep.m1 hS53) hW (fun _=>rfl) (fun _=>rfl) (wl (fun _=>rfl)) hx56 (fun v58 c59 h60 hv61 hS62=>?_)
 simp only [qde,evp,B0,reduceIte,reduceEqDiff]
 refine qp (v := .agg [.int .i64 0,.nil,v39,v58]) (xd (xe (us:=[v39]) (vs:=[.int .i64 0,.nil,v39,
   .nil]) (jr (SlF.one hv42)) rfl (Nat.le_of_ble_eq_true rfl) (qk (SlF.one hv42) zl) rfl (xe (us:=[v58]) (vs:=[.int .i64 0,.nil,v39,
   v58]) (jr (SlF.one hv61)) rfl (Nat.le_of_ble_eq_true rfl) (qk (SlF.one hv61) zl) rfl qcv))) ?_
 simp only [xb,B0,reduceIte,reduceEqDiff]
 refine y7 (us:=[.int .i64 0,.nil,v39,v58]) rfl (cs':=[.int .i64 0,.nil,v39,
   v58]) (Sep.m1 hS62) hW rfl (qk rfl (qk rfl (qk (SlF.one hv42) (qk (SlF.one hv61) zl)))) (Nat.le_of_ble_eq_true rfl) rfl (fun h64 hS65=>?_)
 simp only [zc,q11,qf,qe,f28,qd,qa,B0,reduceIte,reduceEqDiff]
 obtain ⟨oc78,hX80,hk81⟩:=jj hF57
 simp only [quw]
 refine qbr (σ:=Readers_) (fun i76 s126=>wi ends_1 l36 l55 i76 s126) (fun s fr' h'=>∃ v73 c74,
   fr' 1=lst cI ends_1∧fr' 4 = .ptr b1 0∧fr' 6 = .ptr b51 0∧SlN Reader.R 4 37 v73 s.Readers c74∧Sep h' (geL h.length) ([Blk1 b1 [.int .i64 0,.nil,.nil,
   .nil] 29]++([Blk1 b51 [.int .i64 s.Generation,v73,v39,v58] 29]++(c74++(c40++(c59++([]))))))) hX80 ⟨.nil,[],f29,f30,rfl,SlN.nil,
   ((Sep.m3 (Sep.m2 (Sep.m2 (Sep.m1 hS65)))) : Sep _ (geL h.length) ([Blk1 b1 [.int .i64 0,.nil,.nil,.nil] 29]++([Blk1 b51 [.int .i64 0,.nil,v39,
   v58] 29]++(c40++(c59++([]))))))⟩ (by simp only [B0,reduceIte,reduceEqDiff]) (by simp only [B0,reduceIte,
   reduceEqDiff]) (fun _ _ _ h=>h) rfl rfl (fun _ _ _ _ h=>h) (fun _ _ _ _ h=>h) (fun _ _ _ _ h=>h) (by decide) ?_ ?_
 ·rintro i76 s71 fr90 h91 hx96 ⟨v73,c74,f93,f94,f95,hv75,hS92⟩ f97 f98 oc79 hF82 hr83 Q84 hN85 hB89 hK86 hR87 hE88
  unfold wi at hF82
  simp only [q01,jc,f95,zv,ql,Nat.reduceAdd,Nat.zero_add,Nat.add_zero,zg,zm,B0,reduceIte,reduceEqDiff]
  refine qp (v:=v73) ((z9 (Sep.bk _ _ _ (Sep.m1 hS92))).trans rfl) ?_
  obtain ⟨l99,hx100,hF101⟩:=qh hF82
  simp only [f93,z8,ql,qen,zr,qme,B0,reduceIte,reduceEqDiff]
  refine qdr (f:=cI) (z:=(0:Int)) hS92 hx100 rfl (fun v102 c103 h104 hv105 hS106=>?_)
  simp only [qde,evp,B0,reduceIte,reduceEqDiff]
  refine qp (v := .agg [.bool false,.int .i64 0,.nil,v102]) (xd (xe (us:=[v102]) (vs:=[.bool false,.int .i64 0,.nil,
    v102]) (jr (SlF.one hv105)) rfl (Nat.le_of_ble_eq_true rfl) (qk (SlF.one hv105) zl) rfl qcv)) ?_
  simp only [qdg,evp,B0,reduceIte,reduceEqDiff]
  refine qhj (R:=Reader.R) (n:=4) (cs:=[.bool false,.int .i64 0,.nil,
    v102]) (os:=[]++(c103)) (Sep.bi2 (c1:=[]) (c2:=c103) (S:=([Blk1 b1 [.int .i64 0,.nil,.nil,.nil] 29]++([Blk1 b51 [.int .i64 s71.Generation,v73,v39,
    v58] 29]++(c74++(c40++(c59++([]))))))) (hS106:Sep _ (geL h.length) (c103++([Blk1 b1 [.int .i64 0,.nil,.nil,
    .nil] 29]++([Blk1 b51 [.int .i64 s71.Generation,v73,v39,v58] 29]++(c74++(c40++(c59++([]))))))))) (xe (us:=[.bool false,.int .i64 0,.nil,
    v102]) (vs:=[.bool false,.int .i64 0,.nil,
    v102]) rfl rfl (Nat.le_of_ble_eq_true rfl) (qk rfl (qk rfl (qk rfl (qk (SlF.one hv105) zl)))) rfl qcv) (Reader.RI (x :=
    (Reader.mk false 0 [] l99)) SlF.nil hv105) rfl (fun v108 c109 h110 hv111 hS112=>?_)
  simp only [qjp,B0,reduceIte,reduceEqDiff]
  obtain ⟨l114,hx115,hF116⟩:=qh hF101
  refine qjh (R:=Reader.R) (c:=c74) hv75 hv111 (Sep.m3 hS112) hW Reader.RO.len Reader.RO.one hx115 (fun v117 c118 h119 hv120 hS121=>?_)
  simp only [f95,zv,ql,Nat.reduceAdd,Nat.zero_add,Nat.add_zero,zg,xb,B0,reduceIte,reduceEqDiff]
  refine y7 (us:=[v117]) (jr (SlN.one hv120)) (cs':=[.int .i64 s71.Generation,v117,v39,
    v58]) (Sep.m2 hS121) hW rfl (qk (SlN.one hv120) zl) (Nat.le_of_ble_eq_true rfl) rfl (fun h123 hS124=>?_)
  simp only [zc,qm,B0,reduceIte,reduceEqDiff]
  have e125:=qg hF116
  exact hN85 _ _ _ e125.symm ⟨v117,c118,f93,f94,f95,hv120,(Sep.m4 (Sep.m3 (Sep.m3 (Sep.m4 (Sep.m4 hS124)))))⟩ (f97) (f98)
 rintro s127 fr132 h133 rfl ⟨v129,c130,f135,f136,f137,hv131,hS134⟩
 dsimp only [jnO] at hk81
 unfold qev at hk81
 simp only [qf,qe,f137,qn,B0,reduceIte,reduceEqDiff]
 refine qj (v := .agg [.int .i64 s127.Generation,v129,v39,v58]) ((z7 (Sep.bk _ _ _ (Sep.m1 hS134))).trans rfl) ?_
 simp only [f136,zn,B0,reduceIte,reduceEqDiff]
 refine zd (us:=[.int .i64 s127.Generation,v129,v39,v58]) rfl (cs':=[.int .i64 s127.Generation,v129,v39,
   v58]) hS134 hW rfl (qk rfl (qk (SlN.one hv131) (qk (SlF.one hv42) (qk (SlF.one hv61) zl)))) (Nat.le_of_ble_eq_true rfl) rfl (fun h138 hS139=>?_)
 simp only [qd,qa,qx,B0,reduceIte,reduceEqDiff]
 have he:=qg hk81
 subst he
 refine ka (qi (kg (bb:=b1) (oo:=0) (v := .agg [.int .i64 s127.Generation,v129,v39,
   v58]) (f136) ((z7 (Sep.bk _ _ _ hS139)).trans rfl)) (qi (wz (v := .bool true) (rfl)) qy)) ?_
 exact ⟨v129,c130,v39,c40,v58,c59,by first | trivial | rfl,hv131,hv42,hv61,(Sep.m2 (Sep.m2 (Sep.m2 (Sep.dc ((Sep.dc (hS139)))))))⟩
theorem qho {W:Nat→Bool}{h:Heap} (hW:∀ b,
  (geL h.length) b→W b=true) (s_0:List Int) (v_1:Int) (r:Int) (hF:qbo s_0 v_1=some r) : Ret E W 83 [lst cI s_0,
  .int .i64 v_1] h (fun v h'=>cut h.length h' E.sz false 9 v=some (.int .i64 r)):=by
 refine Ret.of (fn:=x83) rfl (Run.of ?_)
 unfold qbo at hF
 have zf0:zb [lst cI s_0,.int .i64 v_1] 0=lst cI s_0:=rfl
 have zf1:zb [lst cI s_0,.int .i64 v_1] 1 = .int .i64 v_1:=rfl
 generalize zb [lst cI s_0,.int .i64 v_1]=fr0 at zf0 zf1 ⊢
 have hS:Sep h (geL h.length) []:=Sep.nil h
 simp only [x83,qf,qe,qd,qa,q0w,zf0,zo,qb,zr,B0,reduceIte,reduceEqDiff]
 obtain ⟨oc3,hX5,hk6⟩:=jj hF
 simp only [q1e]
 refine j8 (σ:=Unit) s_0 (fun i1 x2 _=>w8 v_1 i1 x2 ) (fun s fr' h'=>fr' 0=lst cI s_0∧fr' 1 = .int .i64 v_1∧Sep h' (geL h.length)
   ([])) hX5 ⟨zf0,zf1,hS⟩ (by simp only [B0,reduceIte,reduceEqDiff]) (by simp only [B0,reduceIte,
   reduceEqDiff]) (fun _ _ _ h=>h) rfl rfl (fun _ _ _ _ h=>h) (fun _ _ _ _ h=>h) (fun _ _ _ _ h=>h) (by decide) ?_ ?_
 ·rintro i1 x2 _ fr15 h16 hx20 ⟨f18,f19,hS17⟩ f21 f22 oc4 hF7 hr8 Q9 hN10 hB14 hK11 hR12 hE13
  unfold w8 at hF7
  simp only [q2c,qf,qe,f21,qd,qa,qzj,f19,f18,jo,B0,reduceIte,reduceEqDiff]
  refine qj (v := .ref (cI x2) 0) (j7 hx20 rfl) ?_
  simp only [qn,B0,reduceIte,reduceEqDiff]
  refine qj (v := .int .i64 x2) rfl ?_
  simp only [q9,qb,yx,qa,qxw,za,B0,reduceIte,reduceEqDiff]
  refine qz (t:=(decide (v_1=x2))) (fun hc23=>?_) (fun hc23=>?_)
  ·rw [iteT hc23] at hF7
   simp only [qf,qe,qd,qa,qx,B0,reduceIte,reduceEqDiff]
   have e24:=qg hF7
   subst e24
   have ho25:=hr8 _ rfl
   have hk26:=hk6
   rw [ho25] at hk26
   dsimp only [jnO] at hk26
   apply hR12
   have he:=qg hk26
   subst he
   simp only [zi,B0,reduceIte,reduceEqDiff]
   exact rfl
  rw [iteF hc23] at hF7
  simp only [zh,qm,B0,reduceIte,reduceEqDiff]
  have e27:=qg hF7
  exact hN10 _ _ _ e27.symm ⟨f18,f19,hS17⟩ (f21) (f22)
 rintro _ fr29 h30 rfl ⟨f32,f33,hS31⟩
 dsimp only [jnO] at hk6
 unfold qd0 at hk6
 simp only [qf,qe,qd,qa,qx,B0,reduceIte,reduceEqDiff]
 have he:=qg hk6
 subst he
 simp only [zi,B0,reduceIte,reduceEqDiff]
 exact rfl
theorem x8 {W:Nat→Bool}{h:Heap} (hW:∀ b,
  (geL h.length) b→W b=true) (s_0:List Int) (v_1:Int) (r:Bool) (hF:kn s_0 v_1=some r) : Ret E W 58 [lst cI s_0,
  .int .i64 v_1] h (fun v h'=>cut h.length h' E.sz false 9 v=some (.bool r)):=by
 refine Ret.of (fn:=x58) rfl (Run.of ?_)
 unfold kn at hF
 have zf0:zb [lst cI s_0,.int .i64 v_1] 0=lst cI s_0:=rfl
 have zf1:zb [lst cI s_0,.int .i64 v_1] 1 = .int .i64 v_1:=rfl
 generalize zb [lst cI s_0,.int .i64 v_1]=fr0 at zf0 zf1 ⊢
 have hS:Sep h (geL h.length) []:=Sep.nil h
 obtain ⟨v1,hx2,hF3⟩:=qh hF
 simp only [x58,qf,qe,qd,qa,qyb,zf0,zf1,qw,B0,reduceIte,reduceEqDiff]
 refine je rfl (qi ze (qi qs qy)) (qho (fun b hb=>decide_eq_true hb) s_0 v_1 v1 hx2) ?_
 simp only [q9,qb,qd5,qd,qa,qx,B0,reduceIte,reduceEqDiff]
 have he:=qg hF3
 subst he
 simp only [zi,B0,reduceIte,reduceEqDiff]
 exact rfl
theorem qa8 {W:Nat→Bool}{h:Heap} (hW:∀ b,
  (geL h.length) b→W b=true) (r_0:Readers_) (k_1:Int) (r:List Int) (hF:ya r_0 k_1=some r) : Ret E W 72 [.agg [.int .i64 r_0.Generation,
  lst Reader.cells r_0.Readers,lst cI r_0.Committed,lst cI r_0.Ends],.int .i64 k_1] h (fun v h'=>∃ rv0 rc0,
  v=rv0∧SlF cI 1 3 rv0 r rc0∧Sep h' (geL h.length) (rc0++([]))):=by
 refine Ret.of (fn:=x72) rfl (Run.of ?_)
 unfold ya at hF
 have zf0:zb [.agg [.int .i64 r_0.Generation,lst Reader.cells r_0.Readers,lst cI r_0.Committed,lst cI r_0.Ends],.int .i64 k_1] 0 = .agg [.int .i64 r_0.Generation,
   lst Reader.cells r_0.Readers,lst cI r_0.Committed,lst cI r_0.Ends]:=rfl
 have zf1:zb [.agg [.int .i64 r_0.Generation,lst Reader.cells r_0.Readers,lst cI r_0.Committed,lst cI r_0.Ends],.int .i64 k_1] 1 = .int .i64 k_1:=rfl
 generalize zb [.agg [.int .i64 r_0.Generation,lst Reader.cells r_0.Readers,lst cI r_0.Committed,lst cI r_0.Ends],.int .i64 k_1]=fr0 at zf0 zf1 ⊢
 have hS:Sep h (geL h.length) []:=Sep.nil h
 simp only [x72,qf,qe,jy,zf0,B0,reduceIte,reduceEqDiff]
 refine jk (cs:=[.int .i64 r_0.Generation,lst Reader.cells r_0.Readers,lst cI r_0.Committed,lst cI r_0.Ends]) hS rfl rfl rfl (fun b1 h2 hS3=>?_)
 simp only [qd,qa,B0,reduceIte,reduceEqDiff]
 refine zu hS3 hW (by simp only [B0,reduceIte,reduceEqDiff]) (fun h5 hS6=>?_)
 simp only [zp,qqg,qf,qe,qd,qa,qpt,qt,qb,Nat.reduceAdd,Nat.zero_add,Nat.add_zero,qq,qn,B0,reduceIte,
   reduceEqDiff]
 refine qj (v:=lst Reader.cells r_0.Readers) rfl ?_
 simp only [zo,qb,zr,qd,qa,B0,reduceIte,reduceEqDiff]
 obtain ⟨oc13,hX15,hk16⟩:=jj hF
 simp only [q13]
 refine j8 (σ:=Int × Int) r_0.Readers (fun i11 x12 s49=>w6 k_1 i11 x12 s49.1 s49.2)
   (fun s fr' h'=>fr' 1 = .int .i64 k_1∧fr' 2 = .ref [.int .i64 r_0.Generation,lst Reader.cells r_0.Readers,lst cI r_0.Committed,
   lst cI r_0.Ends] 0∧fr' 5 = .int .i64 s.1∧fr' 6 = .int .i64 s.2∧fr' 12=lst Reader.cells r_0.Readers∧Sep h' (geL h.length) ([])) hX15 ⟨zf1,rfl,rfl,rfl,rfl,
   hS6⟩ (by simp only [B0,reduceIte,reduceEqDiff]) (by simp only [B0,reduceIte,
   reduceEqDiff]) (fun _ _ _ h=>h) rfl rfl (fun _ _ _ _ h=>h) (fun _ _ _ _ h=>h) (fun _ _ _ _ h=>h) (by decide) ?_ ?_
 ·rintro i11 x12 ⟨s9,s10⟩ fr25 h26 hx33 ⟨f28,f29,f30,f31,f32,hS27⟩ f34 f35 oc14 hF17 hr18 Q19 hN20 hB24 hK21 hR22 hE23
  dsimp only at *
  unfold w6 at hF17
  simp only [qw7,qf,qe,f34,qd,f32,jo,B0,reduceIte,reduceEqDiff]
  refine qj (v := .ref (Reader.cells x12) 0) (j7 hx33 rfl) ?_
  simp only [qn,B0,reduceIte,reduceEqDiff]
  refine qj (v := .agg [.bool x12.In,.int .i64 x12.Generation,lst cI x12.Share,lst cI x12.Read]) rfl ?_
  simp only [ja,B0,reduceIte,reduceEqDiff]
  refine zw hS27 (fun b36 h37 hS38=>?_)
  simp only [qd,zn,B0,reduceIte,reduceEqDiff]
  refine zd (us:=[.bool x12.In,.int .i64 x12.Generation,lst cI x12.Share,lst cI x12.Read]) rfl (cs':=[.bool x12.In,.int .i64 x12.Generation,lst cI x12.Share,
    lst cI x12.Read]) hS38 hW rfl rfl (Nat.le_of_ble_eq_true rfl) rfl (fun h40 hS41=>?_)
  simp only [qa,B0,reduceIte,reduceEqDiff]
  refine zu hS41 hW (by simp only [B0,reduceIte,reduceEqDiff]) (fun h42 hS43=>?_)
  simp only [zp,q2f,qf,qe,qt,qb,Nat.reduceAdd,Nat.zero_add,Nat.add_zero,qq,qn,B0,reduceIte,reduceEqDiff]
  refine qj (v := .bool x12.In) rfl ?_
  simp only [qa,qwh,za,B0,reduceIte,reduceEqDiff]
  refine qz (t:=x12.In) (fun hc44=>?_) (fun hc44=>?_)
  ·rw [iteT hc44] at hF17
   simp only [q10,qf,qe,qd,f28,q9,qb,qeb,qa,qxc,za,B0,reduceIte,reduceEqDiff]
   refine qz (t:=(decide ((i11:Int)<k_1))) (fun hc45=>?_) (fun hc45=>?_)
   ·rw [iteT hc45] at hF17
    simp only [qe,f31,qd,q9,qb,u0,qa,f30,qm,B0,reduceIte,reduceEqDiff]
    have e46:=qg hF17
    exact hN20 _ _ _ e46.symm ⟨f28,f29,rfl,rfl,f32,hS43⟩ (f34) (f35)
   rw [iteF hc45] at hF17
   simp only [zh,qe,f30,qd,q9,qb,u0,qa,qm,B0,reduceIte,reduceEqDiff]
   have e47:=qg hF17
   exact hN20 _ _ _ e47.symm ⟨f28,f29,rfl,f31,f32,hS43⟩ (f34) (f35)
  rw [iteF hc44] at hF17
  simp only [zh,qm,B0,reduceIte,reduceEqDiff]
  have e48:=qg hF17
  exact hN20 _ _ _ e48.symm ⟨f28,f29,f30,f31,f32,hS43⟩ (f34) (f35)
 rintro ⟨s50,s51⟩ fr52 h53 rfl ⟨f55,f56,f57,f58,f59,hS54⟩
 dsimp only [jnO] at hk16
 dsimp only at *
 unfold qak at hk16
 simp only [qpv,qf,qe,kf,evp,B0,reduceIte,reduceEqDiff]
 refine ju (n:=1) (f:=cI) ([] : List Int) hS54 rfl rfl (fun v60 c61 h62 hv63 hS64=>?_)
 simp only [qd,qa,qrt,qf,qe,f56,qt,qb,Nat.reduceAdd,Nat.zero_add,Nat.add_zero,qq,qn,B0,reduceIte,reduceEqDiff]
 refine qj (v:=lst cI r_0.Ends) rfl ?_
 simp only [zo,qb,zr,qd,qa,B0,reduceIte,reduceEqDiff]
 obtain ⟨oc78,hX80,hk81⟩:=jj hk16
 simp only [qox]
 refine qbr (σ:=(List Int)) (fun i76 s119=>wy s50 s51 i76 s119) (fun s fr' h'=>∃ v73 c74,
   fr' 5 = .int .i64 s50∧fr' 6 = .int .i64 s51∧fr' 9=v73∧SlF cI 1 3 v73 s c74∧Sep h' (geL h.length) (c74++([]))) hX80 ⟨v60,c61,f57,f58,rfl,hv63,
   hS64⟩ (by simp only [B0,reduceIte,reduceEqDiff]) (by simp only [B0,reduceIte,
   reduceEqDiff]) (fun _ _ _ h=>h) rfl rfl (fun _ _ _ _ h=>h) (fun _ _ _ _ h=>h) (fun _ _ _ _ h=>h) (by decide) ?_ ?_
 ·rintro i76 s71 fr90 h91 hx96 ⟨v73,c74,f93,f94,f95,hv75,hS92⟩ f97 f98 oc79 hF82 hr83 Q84 hN85 hB89 hK86 hR87 hE88
  unfold wy at hF82
  obtain ⟨hp99,hF100⟩:=qh8 hF82
  simp only [qoy,qf,qe,f97,qd,qa,qrf,f93,q9,qb,qif (n:=s50) hp99,f94,yx,qxn,za,B0,reduceIte,
    reduceEqDiff]
  refine qz (t:=(decide ((Int.tmod (i76:Int) s50)=s51))) (fun hc101=>?_) (fun hc101=>?_)
  ·rw [iteT hc101] at hF100
   simp only [qz3,qe,f95,qd,kf,evp,B0,reduceIte,reduceEqDiff]
   refine ju (n:=1) (f:=cI) [(i76:Int)] hS92 rfl rfl (fun v102 c103 h104 hv105 hS106=>?_)
   simp only [qal,B0,reduceIte,reduceEqDiff]
   obtain ⟨l108,hx109,hF110⟩:=qh hF100
   refine xq (f:=cI) hv75 (Sep.m1 hS106) hW (fun _=>rfl) (fun _=>rfl) (SlF.first hv105 hS106 (fun _=>rfl)) hx109 (fun v111 c112 h113 hv114 hS115=>?_)
   simp only [qd,qa,qm,B0,reduceIte,reduceEqDiff]
   have e117:=qg hF110
   exact hN85 _ _ _ e117.symm ⟨v111,c112,f93,f94,rfl,hv114,(Sep.dc (Sep.m1 hS115))⟩ (f97) (f98)
  rw [iteF hc101] at hF100
  simp only [zh,qm,B0,reduceIte,reduceEqDiff]
  have e118:=qg hF100
  exact hN85 _ _ _ e118.symm ⟨v73,c74,f93,f94,f95,hv75,hS92⟩ (f97) (f98)
 rintro s120 fr125 h126 rfl ⟨v122,c123,f128,f129,f130,hv124,hS127⟩
 dsimp only [jnO] at hk81
 unfold qcy at hk81
 simp only [qf,qe,f130,qd,qa,qx,B0,reduceIte,reduceEqDiff]
 have he:=qg hk81
 subst he
 simp only [zi,B0,reduceIte,reduceEqDiff]
 exact ⟨v122,c123,by first | trivial | rfl,hv124,hS127⟩
end Go.Proofs.Ytdhibknhejhfaaa.X
namespace Go.Proofs.Ytdhibknhejhfaaa.X
open Go
open Nat (reduceEqDiff)
theorem qii {W:Nat→Bool}{h:Heap} (hW:∀ b,
  (geL h.length) b→W b=true) (list_0:List Int) (many_1:Int) (r:Bool) (hF:ue list_0 many_1=some r) : Ret E W 81 [lst cI list_0,
  .int .i64 many_1] h (fun v h'=>cut h.length h' E.sz false 9 v=some (.bool r)):=by
 refine Ret.of (fn:=x81) rfl (Run.of ?_)
 unfold ue at hF
 have zf0:zb [lst cI list_0,.int .i64 many_1] 0=lst cI list_0:=rfl
 have zf1:zb [lst cI list_0,.int .i64 many_1] 1 = .int .i64 many_1:=rfl
 generalize zb [lst cI list_0,.int .i64 many_1]=fr0 at zf0 zf1 ⊢
 have hS:Sep h (geL h.length) []:=Sep.nil h
 simp only [x81,qf,qe,qd,qa,qxl,zf0,zo,qb,zr,B0,reduceIte,reduceEqDiff]
 obtain ⟨oc3,hX5,hk6⟩:=jj hF
 simp only [qyy]
 refine j8 (σ:=Unit) list_0 (fun i1 x2 _=>qa3 list_0 many_1 i1 x2 )
   (fun s fr' h'=>fr' 0=lst cI list_0∧fr' 1 = .int .i64 many_1∧fr' 7=lst cI list_0∧Sep h' (geL h.length) ([])) hX5 ⟨zf0,zf1,rfl,hS⟩ (by simp only [B0,reduceIte,
   reduceEqDiff]) (by simp only [B0,reduceIte,reduceEqDiff]) (fun _ _ _ h=>h) rfl rfl (fun _ _ _ _ h=>h) (fun _ _ _ _ h=>h) (fun _ _ _ _ h=>h) (by decide) ?_ ?_
 ·rintro i1 x2 _ fr15 h16 hx21 ⟨f18,f19,f20,hS17⟩ f22 f23 oc4 hF7 hr8 Q9 hN10 hB14 hK11 hR12 hE13
  unfold qa3 at hF7
  simp only [q0o,qf,qe,f22,qd,f20,jo,B0,reduceIte,reduceEqDiff]
  refine qj (v := .ref (cI x2) 0) (j7 hx21 rfl) ?_
  simp only [qn,B0,reduceIte,reduceEqDiff]
  refine qj (v := .int .i64 x2) rfl ?_
  simp only [qd,qa,qvs,qf,qe,f19,q9,qb,qdm,qw,B0,reduceIte,reduceEqDiff]
  refine je rfl (qi qs (qi qs (qi qs qy))) (uv (fun b hb=>decide_eq_true hb) x2 0 (IntKind.wrap .i64 (many_1 - 1)) _ rfl) ?_
  simp only [jf,qb,jt,qd,B0,reduceIte,reduceEqDiff]
  obtain ⟨v27,hx28,hF29⟩:=qh hF7
  refine z4 12 (fun fr' h'=>Sep h' (geL h.length) ([])∧fr' 31 = .bool v27∧fr' 0=lst cI list_0∧fr' 1 = .int .i64 many_1∧fr' 7=lst cI list_0∧fr' 8 = .int .i64
    (List.length list_0:Int)∧fr' 9 = .int .i64 (i1:Int)) (fun Q24 hN25=>?_) ?_
  ·simp only [List.take_succ_cons,List.take_zero]
   simp only [qc (g:=19),B0,reduceIte,reduceEqDiff]
   refine q8 (t:=(!(zq x2 0 (IntKind.wrap .i64 (many_1 - 1))))) (fun hg26=>?_) (fun hg26=>?_)
   ·rw [iteT hg26] at hx28
    simp only [hg26,qc (g:=19),zy,qc (g:=22),uq,qr,qb,zk,qa,qm,B0,reduceIte,reduceEqDiff]
    have e30:=qg hx28
    exact hN25 _ _ ⟨hS17,by rw [←e30]; simp only [B0,reduceIte,reduceEqDiff],f18,f19,f20,f23,f22⟩
   ·rw [iteF hg26] at hx28
    simp only [hg26,qc (g:=19),qo,qd,q9,qb,qe3,B0,reduceIte,reduceEqDiff]
    obtain ⟨v34,hx35,hF36⟩:=qh hx28
    refine z4 8 (fun fr' h'=>Sep h' (geL h.length)
      ([])∧fr' 30 = .bool v34∧fr' 0=lst cI list_0∧fr' 1 = .int .i64 many_1∧fr' 7=lst cI list_0∧fr' 8 = .int .i64
      (List.length list_0:Int)∧fr' 9 = .int .i64 (i1:Int)∧fr' 19 = .bool (!(zq x2 0 (IntKind.wrap .i64 (many_1 - 1))))) (fun Q31 hN32=>?_) ?_
    ·simp only [List.take_succ_cons,List.take_zero]
     simp only [qc (g:=22),B0,reduceIte,reduceEqDiff]
     refine q8 (t:=(decide ((0:Int)<(i1:Int)))) (fun hg33=>?_) (fun hg33=>?_)
     ·rw [iteT hg33] at hx35
      obtain ⟨x37,hx38,hF39⟩:=qh hx35
      simp only [hg33,qc (g:=22),zf,f18,qd,q9,qb,qdm,jo,B0,reduceIte,reduceEqDiff]
      refine qj (v := .ref (cI x37) 0) (wu hx38 rfl) ?_
      simp only [hg33,qc (g:=22),zf,qn,B0,reduceIte,reduceEqDiff]
      refine qj (v := .int .i64 x37) rfl ?_
      simp only [hg33,qc (g:=22),zf,qd,q9,qb,qd5,hg26,qc (g:=19),qo,qr,zk,qa,qm,
        B0,reduceIte,reduceEqDiff]
      have e40:=qg hF39
      exact hN32 _ _ ⟨hS17,by rw [←e40]; simp only [B0,reduceIte,reduceEqDiff],f18,f19,f20,f23,f22,by simp only [hg26,B0,reduceIte,reduceEqDiff]⟩
     ·rw [iteF hg33] at hx35
      simp only [hg33,qc (g:=22),jh,hg26,qc (g:=19),qo,qr,qb,zj,qa,qm,B0,reduceIte,
        reduceEqDiff]
      have e41:=qg hx35
      exact hN32 _ _ ⟨hS17,by rw [←e41]; simp only [B0,reduceIte,reduceEqDiff],f18,f19,f20,f23,f22,by simp only [hg26,B0,reduceIte,reduceEqDiff]⟩
    rintro fr42 h50 ⟨hS51,f43,f44,f45,f46,f47,f48,f49⟩
    simp only [List.drop_succ_cons,List.drop_zero]
    simp only [f49,hg26,qr,qb,zj,f43,qa,qm,B0,reduceIte,reduceEqDiff]
    have e52:=qg hF36
    exact hN25 _ _ ⟨hS51,by rw [←e52]; simp only [B0,reduceIte,reduceEqDiff],f44,f45,f46,f47,f48⟩
  rintro fr53 h60 ⟨hS61,f54,f55,f56,f57,f58,f59⟩
  simp only [List.drop_succ_cons,List.drop_zero]
  simp only [qa,f54,za,B0,reduceIte,reduceEqDiff]
  refine qz (t:=v27) (fun hc62=>?_) (fun hc62=>?_)
  ·rw [iteT hc62] at hF29
   simp only [qf,qe,qd,qa,qx,B0,reduceIte,reduceEqDiff]
   have e63:=qg hF29
   subst e63
   have ho64:=hr8 _ rfl
   have hk65:=hk6
   rw [ho64] at hk65
   dsimp only [jnO] at hk65
   apply hR12
   have he:=qg hk65
   subst he
   simp only [zi,B0,reduceIte,reduceEqDiff]
   exact rfl
  rw [iteF hc62] at hF29
  simp only [zh,qm,B0,reduceIte,reduceEqDiff]
  have e66:=qg hF29
  exact hN10 _ _ _ e66.symm ⟨f55,f56,f57,hS61⟩ (f59) (f58)
 rintro _ fr68 h69 rfl ⟨f71,f72,f73,hS70⟩
 dsimp only [jnO] at hk6
 unfold qeu at hk6
 simp only [qf,qe,qd,qa,qx,B0,reduceIte,reduceEqDiff]
 have he:=qg hk6
 subst he
 simp only [zi,B0,reduceIte,reduceEqDiff]
 exact rfl
theorem qh3 {W:Nat→Bool}{h:Heap} (hW:∀ b,
  (geL h.length) b→W b=true) (s1_0:List Int) (s2_1:List Int) (r:Bool) (hF:u5 s1_0 s2_1=some r) : Ret E W 82 [lst cI s1_0,
  lst cI s2_1] h (fun v h'=>cut h.length h' E.sz false 9 v=some (.bool r)):=by
 refine Ret.of (fn:=x82) rfl (Run.of ?_)
 unfold u5 at hF
 have zf0:zb [lst cI s1_0,lst cI s2_1] 0=lst cI s1_0:=rfl
 have zf1:zb [lst cI s1_0,lst cI s2_1] 1=lst cI s2_1:=rfl
 generalize zb [lst cI s1_0,lst cI s2_1]=fr0 at zf0 zf1 ⊢
 have hS:Sep h (geL h.length) []:=Sep.nil h
 simp only [x82,qf,qe,qd,qa,q2a,zf0,zo,qb,zr,zf1,q9,wx,za,B0,reduceIte,reduceEqDiff]
 refine qz (t:=(decide ((List.length s1_0:Int)≠(List.length s2_1:Int)))) (fun hc1=>?_) (fun hc1=>?_)
 ·rw [iteT hc1] at hF
  simp only [qf,qe,qd,qa,qx,B0,reduceIte,reduceEqDiff]
  have he:=qg hF
  subst he
  simp only [zi,B0,reduceIte,reduceEqDiff]
  exact rfl
 rw [iteF hc1] at hF
 simp only [zh,q00,qf,qe,zf0,qd,zo,qb,zr,qa,B0,reduceIte,reduceEqDiff]
 obtain ⟨oc4,hX6,hk7⟩:=jj hF
 simp only [qvq]
 refine j8 (σ:=Unit) s1_0 (fun i2 x3 _=>qaf s2_1 i2 x3 ) (fun s fr' h'=>fr' 0=lst cI s1_0∧fr' 1=lst cI s2_1∧Sep h' (geL h.length)
   ([])) hX6 ⟨zf0,zf1,hS⟩ (by simp only [B0,reduceIte,reduceEqDiff]) (by simp only [B0,reduceIte,
   reduceEqDiff]) (fun _ _ _ h=>h) rfl rfl (fun _ _ _ _ h=>h) (fun _ _ _ _ h=>h) (fun _ _ _ _ h=>h) (by decide) ?_ ?_
 ·rintro i2 x3 _ fr16 h17 hx21 ⟨f19,f20,hS18⟩ f22 f23 oc5 hF8 hr9 Q10 hN11 hB15 hK12 hR13 hE14
  unfold qaf at hF8
  simp only [q0x,qf,qe,f22,qd,qa,qwg,jc,f19,z8,ql,yj,B0,reduceIte,reduceEqDiff]
  refine qp (v := .ref (cI x3) 0) (j7 hx21 rfl) ?_
  simp only [zm,B0,reduceIte,reduceEqDiff]
  refine qp (v := .int .i64 x3) rfl ?_
  obtain ⟨x24,hx25,hF26⟩:=qh hF8
  simp only [f20,z8,ql,yj,B0,reduceIte,reduceEqDiff]
  refine qp (v := .ref (cI x24) 0) (wu hx25 rfl) ?_
  simp only [zm,B0,reduceIte,reduceEqDiff]
  refine qp (v := .int .i64 x24) rfl ?_
  simp only [yh,ql,wx,zc,za,B0,reduceIte,reduceEqDiff]
  refine qz (t:=(decide (x3≠x24))) (fun hc27=>?_) (fun hc27=>?_)
  ·rw [iteT hc27] at hF26
   simp only [qf,qe,qd,qa,qx,B0,reduceIte,reduceEqDiff]
   have e28:=qg hF26
   subst e28
   have ho29:=hr9 _ rfl
   have hk30:=hk7
   rw [ho29] at hk30
   dsimp only [jnO] at hk30
   apply hR13
   have he:=qg hk30
   subst he
   simp only [zi,B0,reduceIte,reduceEqDiff]
   exact rfl
  rw [iteF hc27] at hF26
  simp only [zh,qm,B0,reduceIte,reduceEqDiff]
  have e31:=qg hF26
  exact hN11 _ _ _ e31.symm ⟨f19,f20,hS18⟩ (f22) (f23)
 rintro _ fr33 h34 rfl ⟨f36,f37,hS35⟩
 dsimp only [jnO] at hk7
 unfold qd3 at hk7
 simp only [qf,qe,qd,qa,qx,B0,reduceIte,reduceEqDiff]
 have he:=qg hk7
 subst he
 simp only [zi,B0,reduceIte,reduceEqDiff]
 exact rfl
theorem uk {W:Nat→Bool}{h:Heap} (hW:∀ b,
  (geL h.length) b→W b=true) (v_0:Readers_) (r:Bool) (hF:yi v_0=some r) : Ret E W 55 [.agg [.int .i64 v_0.Generation,lst Reader.cells v_0.Readers,
  lst cI v_0.Committed,lst cI v_0.Ends]] h (fun v h'=>cut h.length h' E.sz false 9 v=some (.bool r)):=by
 refine Ret.of (fn:=x55) rfl (Run.of ?_)
 unfold yi at hF
 have zf0:zb [.agg [.int .i64 v_0.Generation,lst Reader.cells v_0.Readers,lst cI v_0.Committed,lst cI v_0.Ends]] 0 = .agg [.int .i64 v_0.Generation,
   lst Reader.cells v_0.Readers,lst cI v_0.Committed,lst cI v_0.Ends]:=rfl
 generalize zb [.agg [.int .i64 v_0.Generation,lst Reader.cells v_0.Readers,lst cI v_0.Committed,lst cI v_0.Ends]]=fr0 at zf0 ⊢
 have hS:Sep h (geL h.length) []:=Sep.nil h
 simp only [x55,qf,qe,jy,zf0,B0,reduceIte,reduceEqDiff]
 refine jk (cs:=[.int .i64 v_0.Generation,lst Reader.cells v_0.Readers,lst cI v_0.Committed,lst cI v_0.Ends]) hS rfl rfl rfl (fun b1 h2 hS3=>?_)
 simp only [qd,qa,B0,reduceIte,reduceEqDiff]
 refine zu hS3 hW (by simp only [B0,reduceIte,reduceEqDiff]) (fun h5 hS6=>?_)
 simp only [zp,qrc,qf,qe,qt,qb,Nat.reduceAdd,Nat.zero_add,Nat.add_zero,qq,qn,B0,reduceIte,reduceEqDiff]
 refine qj (v:=lst cI v_0.Ends) rfl ?_
 simp only [zo,qb,zr,qd,qa,qpj,qf,qe,qt,Nat.reduceAdd,Nat.zero_add,Nat.add_zero,qq,qn,B0,reduceIte,
   reduceEqDiff]
 refine qj (v:=lst Reader.cells v_0.Readers) rfl ?_
 simp only [zo,qb,zr,qt,Nat.reduceAdd,Nat.zero_add,Nat.add_zero,qq,qn,B0,reduceIte,reduceEqDiff]
 refine qj (v:=lst cI v_0.Ends) rfl ?_
 obtain ⟨v7,hx8,hF9⟩:=qh hF
 simp only [qw,B0,reduceIte,reduceEqDiff]
 refine xz rfl hS6 (qi qs (qi ze qy)) (qe6 (fun b hb=>decide_eq_true hb) (List.length v_0.Readers:Int) v_0.Ends v7 hx8) ?_
 rintro _ h22 ⟨v10,c11,v14,c15,v18,c19,rfl,hv12,hv16,hv20,hS23⟩
 refine ⟨_,qbv (qk (qap (qk rfl (qk (SlN.free1 hv12) (qk (SlF.free1 hv16) (qk (SlF.free1 hv20) zl))))) (qk rfl zl)),hS23,
   (z0 (SlN.pf hv12 Reader.RO) (z0 (SlF.pf hv16 (fun _=>rfl)) (z0 (SlF.pf hv20 (fun _=>rfl)) yc))),fun h24 hS25=>?_⟩
 have hS26:Sep h24 (geL h.length) (c11++(c15++(c19++([])))):=by simpa only [List.append_assoc,List.nil_append] using hS25
 simp only [qd,yl,qb,yv,yq,ja,B0,reduceIte,reduceEqDiff]
 refine zw hS26 (fun b27 h28 hS29=>?_)
 simp only [zn,B0,reduceIte,reduceEqDiff]
 refine zd (us:=[.int .i64 v7.1.Generation,v10,v14,v18]) rfl (cs':=[.int .i64 v7.1.Generation,v10,v14,
   v18]) hS29 hW rfl (qk rfl (qk (SlN.one hv12) (qk (SlF.one hv16) (qk (SlF.one hv20) zl)))) (Nat.le_of_ble_eq_true rfl) rfl (fun h31 hS32=>?_)
 simp only [qd,qa,B0,reduceIte,reduceEqDiff]
 refine zu hS32 hW (by simp only [B0,reduceIte,reduceEqDiff]) (fun h33 hS34=>?_)
 simp only [zp,qum,qf,qe,qd,jf,qb,jt,B0,reduceIte,reduceEqDiff]
 refine z4 6 (fun fr' h'=>Sep h' (geL h.length) ([])∧fr' 32 = .bool ((!v7.2)||(decide ((List.length v_0.Committed:Int) ≠
   (List.length v_0.Ends:Int))))∧fr' 1 = .ref [.int .i64 v_0.Generation,lst Reader.cells v_0.Readers,lst cI v_0.Committed,
   lst cI v_0.Ends] 0∧fr' 3 = .int .i64 (List.length v_0.Ends:Int)) (fun Q35 hN36=>?_) ?_
 ·simp only [List.take_succ_cons,List.take_zero]
  simp only [qc (g:=26),B0,reduceIte,reduceEqDiff]
  refine q8 (t:=(!v7.2)) (fun hg37=>?_) (fun hg37=>?_)
  ·simp only [hg37,qc (g:=26),zy,qr,qb,zk,qa,qm,B0,reduceIte,reduceEqDiff]
   exact hN36 _ _ ⟨(Sep.dc ((Sep.dc ((Sep.dc (hS34)))))),by rw [orT hg37]; simp only [B0,reduceIte,reduceEqDiff],rfl,rfl⟩
  ·simp only [hg37,qc (g:=26),qo,qt,qb,Nat.reduceAdd,Nat.zero_add,Nat.add_zero,qq,qn,B0,reduceIte,reduceEqDiff]
   refine qj (v:=lst cI v_0.Committed) rfl ?_
   simp only [hg37,qc (g:=26),qo,zo,qb,zr,qd,q9,wx,qr,zj,qa,qm,B0,reduceIte,reduceEqDiff]
   exact hN36 _ _ ⟨(Sep.dc ((Sep.dc ((Sep.dc (hS34)))))),by rw [orF hg37]; simp only [B0,reduceIte,reduceEqDiff],rfl,rfl⟩
 rintro fr38 h42 ⟨hS43,f39,f40,f41⟩
 simp only [List.drop_succ_cons,List.drop_zero]
 simp only [f39,qd,B0,reduceIte,reduceEqDiff]
 refine z4 5 (fun fr' h'=>Sep h' (geL h.length) ([])∧fr' 38 = .bool (((!v7.2)||(decide ((List.length v_0.Committed:Int)≠(List.length v_0.Ends:Int)))) ||
   (!(zq v_0.Generation 0 1000)))∧fr' 1 = .ref [.int .i64 v_0.Generation,lst Reader.cells v_0.Readers,lst cI v_0.Committed,
   lst cI v_0.Ends] 0∧fr' 3 = .int .i64 (List.length v_0.Ends:Int)) (fun Q44 hN45=>?_) ?_
 ·simp only [List.take_succ_cons,List.take_zero]
  simp only [qc (g:=33),B0,reduceIte,reduceEqDiff]
  refine q8 (t:=((!v7.2)||(decide ((List.length v_0.Committed:Int)≠(List.length v_0.Ends:Int))))) (fun hg46=>?_) (fun hg46=>?_)
  ·simp only [hg46,qc (g:=33),zy,qr,qb,zk,qa,qm,B0,reduceIte,reduceEqDiff]
   exact hN45 _ _ ⟨hS43,by rw [orT hg46]; simp only [B0,reduceIte,reduceEqDiff],f40,f41⟩
  ·simp only [hg46,qc (g:=33),qo,f40,qt,qb,Nat.reduceAdd,Nat.zero_add,Nat.add_zero,qq,qn,B0,reduceIte,reduceEqDiff]
   refine qj (v := .int .i64 v_0.Generation) rfl ?_
   simp only [hg46,qc (g:=33),qo,qw,B0,reduceIte,reduceEqDiff]
   refine je rfl (qi qs (qi qs (qi qs qy))) (uv (fun b hb=>decide_eq_true hb) v_0.Generation 0 1000 _ rfl) ?_
   simp only [hg46,qc (g:=33),qo,jf,qb,jt,qr,zj,qa,qm,B0,reduceIte,reduceEqDiff]
   exact hN45 _ _ ⟨hS43,by rw [orF hg46]; simp only [B0,reduceIte,reduceEqDiff],f40,f41⟩
 rintro fr47 h51 ⟨hS52,f48,f49,f50⟩
 simp only [List.drop_succ_cons,List.drop_zero]
 simp only [qa,f48,za,B0,reduceIte,reduceEqDiff]
 refine qz (t:=(((!v7.2)||(decide ((List.length v_0.Committed:Int)≠(List.length v_0.Ends:Int))))||(!(zq v_0.Generation 0 1000)))) (fun hc53=>?_)
   (fun hc53=>?_)
 ·rw [iteT hc53] at hF9
  simp only [qf,qe,qd,qa,qx,B0,reduceIte,reduceEqDiff]
  have he:=qg hF9
  subst he
  simp only [zi,B0,reduceIte,reduceEqDiff]
  exact rfl
 rw [iteF hc53] at hF9
 simp only [zh,qpo,qf,qe,f49,qt,qb,Nat.reduceAdd,Nat.zero_add,Nat.add_zero,qq,qn,B0,reduceIte,reduceEqDiff]
 refine qj (v:=lst cI v_0.Committed) rfl ?_
 simp only [zo,qb,zr,qd,qa,B0,reduceIte,reduceEqDiff]
 obtain ⟨oc56,hX58,hk59⟩:=jj hF9
 simp only [qz5]
 refine j8 (σ:=Unit) v_0.Committed (fun i54 x55 _=>qar v_0 i54 x55 ) (fun s fr' h'=>fr' 1 = .ref [.int .i64 v_0.Generation,
   lst Reader.cells v_0.Readers,lst cI v_0.Committed,
   lst cI v_0.Ends] 0∧fr' 3 = .int .i64 (List.length v_0.Ends:Int)∧fr' 40=lst cI v_0.Committed∧Sep h' (geL h.length) ([])) hX58 ⟨f49,f50,rfl,
   hS52⟩ (by simp only [B0,reduceIte,reduceEqDiff]) (by simp only [B0,reduceIte,
   reduceEqDiff]) (fun _ _ _ h=>h) rfl rfl (fun _ _ _ _ h=>h) (fun _ _ _ _ h=>h) (fun _ _ _ _ h=>h) (by decide) ?_ ?_
 ·rintro i54 x55 _ fr68 h69 hx74 ⟨f71,f72,f73,hS70⟩ f75 f76 oc57 hF60 hr61 Q62 hN63 hB67 hK64 hR65 hE66
  unfold qar at hF60
  simp only [qwl,qf,qe,f75,qd,f73,jo,B0,reduceIte,reduceEqDiff]
  refine qj (v := .ref (cI x55) 0) (j7 hx74 rfl) ?_
  simp only [qn,B0,reduceIte,reduceEqDiff]
  refine qj (v := .int .i64 x55) rfl ?_
  simp only [qd,qa,qza,qf,qe,f71,qt,qb,Nat.reduceAdd,Nat.zero_add,Nat.add_zero,qq,qn,B0,reduceIte,reduceEqDiff]
  refine qj (v:=lst cI v_0.Ends) rfl ?_
  obtain ⟨x77,hx78,hF79⟩:=qh hF60
  simp only [qd,jo,B0,reduceIte,reduceEqDiff]
  refine qj (v := .ref (cI x77) 0) (wu hx78 rfl) ?_
  simp only [qn,B0,reduceIte,reduceEqDiff]
  refine qj (v := .int .i64 x77) rfl ?_
  simp only [qw,B0,reduceIte,reduceEqDiff]
  refine je rfl (qi qs (qi qs (qi qs qy))) (uv (fun b hb=>decide_eq_true hb) x55 0 x77 _ rfl) ?_
  simp only [jf,qb,jt,qa,za,B0,reduceIte,reduceEqDiff]
  refine qz (t:=(!(zq x55 0 x77))) (fun hc80=>?_) (fun hc80=>?_)
  ·rw [iteT hc80] at hF79
   simp only [qf,qe,qd,qa,qx,B0,reduceIte,reduceEqDiff]
   have e81:=qg hF79
   subst e81
   have ho82:=hr61 _ rfl
   have hk83:=hk59
   rw [ho82] at hk83
   dsimp only [jnO] at hk83
   apply hR65
   have he:=qg hk83
   subst he
   simp only [zi,B0,reduceIte,reduceEqDiff]
   exact rfl
  rw [iteF hc80] at hF79
  simp only [zh,qm,B0,reduceIte,reduceEqDiff]
  have e84:=qg hF79
  exact hN63 _ _ _ e84.symm ⟨f71,f72,f73,hS70⟩ (f75) (f76)
 rintro _ fr86 h87 rfl ⟨f89,f90,f91,hS88⟩
 dsimp only [jnO] at hk59
 unfold qcd at hk59
 simp only [qpk,qf,qe,f89,qt,qb,Nat.reduceAdd,Nat.zero_add,Nat.add_zero,qq,qn,B0,reduceIte,reduceEqDiff]
 refine qj (v:=lst Reader.cells v_0.Readers) rfl ?_
 simp only [zo,qb,zr,qd,qa,B0,reduceIte,reduceEqDiff]
 obtain ⟨oc94,hX96,hk97⟩:=jj hk59
 simp only [qss]
 refine j8 (σ:=Unit) v_0.Readers (fun i92 x93 _=>xp v_0 i92 x93 ) (fun s fr' h'=>fr' 1 = .ref [.int .i64 v_0.Generation,lst Reader.cells v_0.Readers,
   lst cI v_0.Committed,lst cI v_0.Ends] 0∧fr' 3 = .int .i64 (List.length v_0.Ends:Int)∧fr' 57=lst Reader.cells v_0.Readers∧Sep h' (geL h.length) ([])) hX96 ⟨f89,
   f90,rfl,hS88⟩ (by simp only [B0,reduceIte,reduceEqDiff]) (by simp only [B0,reduceIte,
   reduceEqDiff]) (fun _ _ _ h=>h) rfl rfl (fun _ _ _ _ h=>h) (fun _ _ _ _ h=>h) (fun _ _ _ _ h=>h) (by decide) ?_ ?_
 ·rintro i92 x93 _ fr106 h107 hx112 ⟨f109,f110,f111,hS108⟩ f113 f114 oc95 hF98 hr99 Q100 hN101 hB105 hK102 hR103 hE104
  unfold xp at hF98
  simp only [qst,qf,qe,f113,qd,f111,jo,B0,reduceIte,reduceEqDiff]
  refine qj (v := .ref (Reader.cells x93) 0) (j7 hx112 rfl) ?_
  simp only [qn,B0,reduceIte,reduceEqDiff]
  refine qj (v := .agg [.bool x93.In,.int .i64 x93.Generation,lst cI x93.Share,lst cI x93.Read]) rfl ?_
  simp only [ja,B0,reduceIte,reduceEqDiff]
  refine zw hS108 (fun b115 h116 hS117=>?_)
  simp only [qd,zn,B0,reduceIte,reduceEqDiff]
  refine zd (us:=[.bool x93.In,.int .i64 x93.Generation,lst cI x93.Share,lst cI x93.Read]) rfl (cs':=[.bool x93.In,.int .i64 x93.Generation,lst cI x93.Share,
    lst cI x93.Read]) hS117 hW rfl rfl (Nat.le_of_ble_eq_true rfl) rfl (fun h119 hS120=>?_)
  simp only [qa,B0,reduceIte,reduceEqDiff]
  refine zu hS120 hW (by simp only [B0,reduceIte,reduceEqDiff]) (fun h121 hS122=>?_)
  simp only [zp,qqj,qf,qe,qt,qb,Nat.reduceAdd,Nat.zero_add,Nat.add_zero,qq,qn,B0,reduceIte,reduceEqDiff]
  refine qj (v:=lst cI x93.Read) rfl ?_
  simp only [zo,qb,zr,f110,qd,q9,wx,B0,reduceIte,reduceEqDiff]
  obtain ⟨v126,hx127,hF128⟩:=qh hF98
  refine z4 6 (fun fr' h'=>Sep h' (geL h.length) ([])∧fr' 75 = .bool v126∧fr' 1 = .ref [.int .i64 v_0.Generation,lst Reader.cells v_0.Readers,lst cI v_0.Committed,
    lst cI v_0.Ends] 0∧fr' 3 = .int .i64 (List.length v_0.Ends:Int)∧fr' 8 = .int .i64 (i92:Int)∧fr' 9 = .ref [.bool x93.In,.int .i64 x93.Generation,
    lst cI x93.Share,lst cI x93.Read] 0∧fr' 57=lst Reader.cells v_0.Readers∧fr' 58 = .int .i64 (List.length v_0.Readers:Int)∧fr' 59 = .int .i64 (i92:Int))
    (fun Q123 hN124=>?_) ?_
  ·simp only [List.take_succ_cons,List.take_zero]
   simp only [qc (g:=69),B0,reduceIte,reduceEqDiff]
   refine q8 (t:=(decide ((List.length x93.Read:Int)≠(List.length v_0.Ends:Int)))) (fun hg125=>?_) (fun hg125=>?_)
   ·rw [iteT hg125] at hx127
    simp only [hg125,qc (g:=69),zy,qr,qb,zk,qa,qm,B0,reduceIte,reduceEqDiff]
    have e129:=qg hx127
    exact hN124 _ _ ⟨hS122,by rw [←e129]; simp only [B0,reduceIte,reduceEqDiff],f109,f110,rfl,rfl,f111,f114,f113⟩
   ·rw [iteF hg125] at hx127
    simp only [hg125,qc (g:=69),qo,qt,qb,Nat.reduceAdd,Nat.zero_add,Nat.add_zero,qq,qn,B0,reduceIte,reduceEqDiff]
    refine qj (v:=lst cI x93.Share) rfl ?_
    obtain ⟨v130,hx131,hF132⟩:=qh hx127
    simp only [hg125,qc (g:=69),qo,f110,qd,qw,B0,reduceIte,reduceEqDiff]
    refine je rfl (qi ze (qi qs qy)) (qii (fun b hb=>decide_eq_true hb) x93.Share (List.length v_0.Ends:Int) v130 hx131) ?_
    simp only [hg125,qc (g:=69),qo,jf,qb,jt,qr,zj,qa,qm,B0,reduceIte,reduceEqDiff]
    have e133:=qg hF132
    exact hN124 _ _ ⟨hS122,by rw [←e133]; simp only [B0,reduceIte,reduceEqDiff],f109,f110,rfl,rfl,f111,f114,f113⟩
  rintro fr134 h143 ⟨hS144,f135,f136,f137,f138,f139,f140,f141,f142⟩
  simp only [List.drop_succ_cons,List.drop_zero]
  simp only [f135,qd,B0,reduceIte,reduceEqDiff]
  refine z4 7 (fun fr' h'=>Sep h' (geL h.length) ([])∧fr' 83 = .bool (v126||(!(zq x93.Generation 0 v_0.Generation)))∧fr' 1 = .ref [.int .i64 v_0.Generation,
    lst Reader.cells v_0.Readers,lst cI v_0.Committed,
    lst cI v_0.Ends] 0∧fr' 3 = .int .i64 (List.length v_0.Ends:Int)∧fr' 8 = .int .i64 (i92:Int)∧fr' 9 = .ref [.bool x93.In,.int .i64 x93.Generation,
    lst cI x93.Share,lst cI x93.Read] 0∧fr' 57=lst Reader.cells v_0.Readers∧fr' 58 = .int .i64 (List.length v_0.Readers:Int)∧fr' 59 = .int .i64 (i92:Int))
    (fun Q145 hN146=>?_) ?_
  ·simp only [List.take_succ_cons,List.take_zero]
   simp only [qc (g:=76),B0,reduceIte,reduceEqDiff]
   refine q8 (t:=v126) (fun hg147=>?_) (fun hg147=>?_)
   ·simp only [hg147,qc (g:=76),zy,qr,qb,zk,qa,qm,B0,reduceIte,reduceEqDiff]
    exact hN146 _ _ ⟨hS144,by rw [orT hg147]; simp only [B0,reduceIte,reduceEqDiff],f136,f137,f138,f139,f140,f141,f142⟩
   ·simp only [hg147,qc (g:=76),qo,f139,qt,qb,Nat.reduceAdd,Nat.zero_add,Nat.add_zero,qq,qn,B0,reduceIte,reduceEqDiff]
    refine qj (v := .int .i64 x93.Generation) rfl ?_
    simp only [hg147,qc (g:=76),qo,f136,qt,qb,Nat.reduceAdd,Nat.zero_add,Nat.add_zero,qq,qn,B0,reduceIte,reduceEqDiff]
    refine qj (v := .int .i64 v_0.Generation) rfl ?_
    simp only [hg147,qc (g:=76),qo,qw,B0,reduceIte,reduceEqDiff]
    refine je rfl (qi qs (qi qs (qi qs qy))) (uv (fun b hb=>decide_eq_true hb) x93.Generation 0 v_0.Generation _ rfl) ?_
    simp only [hg147,qc (g:=76),qo,jf,qb,jt,qr,zj,qa,qm,B0,reduceIte,reduceEqDiff]
    exact hN146 _ _ ⟨hS144,by rw [orF hg147]; simp only [B0,reduceIte,reduceEqDiff],f136,f137,f138,f139,f140,f141,f142⟩
  rintro fr148 h157 ⟨hS158,f149,f150,f151,f152,f153,f154,f155,f156⟩
  simp only [List.drop_succ_cons,List.drop_zero]
  simp only [f149,qd,B0,reduceIte,reduceEqDiff]
  refine z4 15 (fun fr' h'=>Sep h' (geL h.length) ([])∧fr' 99 = .bool ((v126||(!(zq x93.Generation 0 v_0.Generation)))||((!x93.In)&&((decide
    (x93.Generation≠0))||(decide ((0:Int)<(List.length x93.Share:Int))))))∧fr' 1 = .ref [.int .i64 v_0.Generation,lst Reader.cells v_0.Readers,
    lst cI v_0.Committed,lst cI v_0.Ends] 0∧fr' 3 = .int .i64 (List.length v_0.Ends:Int)∧fr' 8 = .int .i64 (i92:Int)∧fr' 9 = .ref [.bool x93.In,
    .int .i64 x93.Generation,lst cI x93.Share,
    lst cI x93.Read] 0∧fr' 57=lst Reader.cells v_0.Readers∧fr' 58 = .int .i64 (List.length v_0.Readers:Int)∧fr' 59 = .int .i64 (i92:Int)) (fun Q159 hN160=>?_) ?_
  ·simp only [List.take_succ_cons,List.take_zero]
   simp only [qc (g:=84),B0,reduceIte,reduceEqDiff]
   refine q8 (t:=(v126||(!(zq x93.Generation 0 v_0.Generation)))) (fun hg161=>?_) (fun hg161=>?_)
   ·simp only [hg161,qc (g:=84),zy,qc (g:=88),uq,qc (g:=92),qr,qb,zk,qa,qm,B0,reduceIte,
     reduceEqDiff]
    exact hN160 _ _ ⟨hS158,by rw [orT hg161]; simp only [B0,reduceIte,reduceEqDiff],f150,f151,f152,f153,f154,f155,f156⟩
   ·simp only [hg161,qc (g:=84),qo,f153,qt,qb,Nat.reduceAdd,Nat.zero_add,Nat.add_zero,qq,qn,B0,reduceIte,reduceEqDiff]
    refine qj (v := .bool x93.In) rfl ?_
    simp only [hg161,qc (g:=84),qo,jf,qb,jt,qd,B0,reduceIte,reduceEqDiff]
    refine z4 10 (fun fr' h'=>Sep h' (geL h.length) ([])∧fr' 98 = .bool ((!x93.In)&&((decide (x93.Generation≠0))||(decide ((0:Int) <
      (List.length x93.Share:Int)))))∧fr' 1 = .ref [.int .i64 v_0.Generation,lst Reader.cells v_0.Readers,lst cI v_0.Committed,
      lst cI v_0.Ends] 0∧fr' 3 = .int .i64 (List.length v_0.Ends:Int)∧fr' 8 = .int .i64 (i92:Int)∧fr' 9 = .ref [.bool x93.In,.int .i64 x93.Generation,
      lst cI x93.Share,lst cI x93.Read] 0∧fr' 57=lst Reader.cells v_0.Readers∧fr' 58 = .int .i64 (List.length v_0.Readers:Int)∧fr' 59 = .int .i64
      (i92:Int)∧fr' 84 = .bool (v126||(!(zq x93.Generation 0 v_0.Generation)))) (fun Q162 hN163=>?_) ?_
    ·simp only [List.take_succ_cons,List.take_zero]
     simp only [qc (g:=88),B0,reduceIte,reduceEqDiff]
     refine q8 (t:=(!x93.In)) (fun hg164=>?_) (fun hg164=>?_)
     ·simp only [hg164,qc (g:=88),zf,f153,qt,qb,Nat.reduceAdd,Nat.zero_add,Nat.add_zero,qq,qn,B0,reduceIte,reduceEqDiff]
      refine qj (v := .int .i64 x93.Generation) rfl ?_
      simp only [hg164,qc (g:=88),zf,q9,qb,wx,qd,B0,reduceIte,reduceEqDiff]
      refine z4 5 (fun fr' h'=>Sep h' (geL h.length) ([])∧fr' 97 = .bool ((decide (x93.Generation≠0))||(decide ((0:Int) <
        (List.length x93.Share:Int))))∧fr' 1 = .ref [.int .i64 v_0.Generation,lst Reader.cells v_0.Readers,lst cI v_0.Committed,
        lst cI v_0.Ends] 0∧fr' 3 = .int .i64 (List.length v_0.Ends:Int)∧fr' 8 = .int .i64 (i92:Int)∧fr' 9 = .ref [.bool x93.In,.int .i64 x93.Generation,
        lst cI x93.Share,lst cI x93.Read] 0∧fr' 57=lst Reader.cells v_0.Readers∧fr' 58 = .int .i64 (List.length v_0.Readers:Int)∧fr' 59 = .int .i64
        (i92:Int)∧fr' 84 = .bool (v126||(!(zq x93.Generation 0 v_0.Generation)))∧fr' 88 = .bool (!x93.In)) (fun Q165 hN166=>?_) ?_
      ·simp only [List.take_succ_cons,List.take_zero]
       simp only [qc (g:=92),B0,reduceIte,reduceEqDiff]
       refine q8 (t:=(decide (x93.Generation≠0))) (fun hg167=>?_) (fun hg167=>?_)
       ·simp only [hg167,qc (g:=92),zy,hg164,qc (g:=88),zf,qr,qb,zk,qa,qm,B0,reduceIte,
         reduceEqDiff]
        exact hN166 _ _ ⟨hS158,by rw [orT hg167]; simp only [B0,reduceIte,reduceEqDiff],f150,f151,f152,f153,f154,f155,f156,by simp only [hg161,B0,reduceIte,
          reduceEqDiff],by simp only [hg164,B0,reduceIte,reduceEqDiff]⟩
       ·simp only [hg167,qc (g:=92),qo,f153,qt,qb,Nat.reduceAdd,Nat.zero_add,Nat.add_zero,qq,qn,B0,reduceIte,
         reduceEqDiff]
        refine qj (v:=lst cI x93.Share) rfl ?_
        simp only [hg167,qc (g:=92),qo,zo,qb,zr,q9,qe3,hg164,qc (g:=88),zf,qr,zj,
          qa,qm,B0,reduceIte,reduceEqDiff]
        exact hN166 _ _ ⟨hS158,by rw [orF hg167]; simp only [B0,reduceIte,reduceEqDiff],f150,f151,f152,f153,f154,f155,f156,by simp only [hg161,B0,reduceIte,
          reduceEqDiff],by simp only [hg164,B0,reduceIte,reduceEqDiff]⟩
      rintro fr168 h179 ⟨hS180,f169,f170,f171,f172,f173,f174,f175,f176,f177,f178⟩
      simp only [List.drop_succ_cons,List.drop_zero]
      simp only [f177,hg161,qc (g:=84),qo,f178,hg164,qr,qb,zk,f169,qa,qm,B0,reduceIte,reduceEqDiff]
      exact hN163 _ _ ⟨hS180,by rw [xj hg164]; simp only [B0,reduceIte,reduceEqDiff],f170,f171,f172,f173,f174,f175,f176,by simp only [f177,hg161,B0,
        reduceIte,reduceEqDiff]⟩
     ·simp only [hg164,qc (g:=88),jh,qc (g:=92),uq,hg161,qc (g:=84),qo,qr,qb,zj,qa,
       qm,B0,reduceIte,reduceEqDiff]
      exact hN163 _ _ ⟨hS158,by rw [xy hg164]; simp only [B0,reduceIte,reduceEqDiff],f150,f151,f152,f153,f154,f155,f156,by simp only [hg161,B0,reduceIte,
        reduceEqDiff]⟩
    rintro fr181 h191 ⟨hS192,f182,f183,f184,f185,f186,f187,f188,f189,f190⟩
    simp only [List.drop_succ_cons,List.drop_zero]
    simp only [f190,hg161,qr,qb,zj,f182,qa,qm,B0,reduceIte,reduceEqDiff]
    exact hN160 _ _ ⟨hS192,by rw [orF hg161]; simp only [B0,reduceIte,reduceEqDiff],f183,f184,f185,f186,f187,f188,f189⟩
  rintro fr193 h202 ⟨hS203,f194,f195,f196,f197,f198,f199,f200,f201⟩
  simp only [List.drop_succ_cons,List.drop_zero]
  simp only [qa,f194,za,B0,reduceIte,reduceEqDiff]
  refine qz (t:=((v126||(!(zq x93.Generation 0 v_0.Generation)))||((!x93.In)&&((decide (x93.Generation≠0))||(decide ((0:Int) <
    (List.length x93.Share:Int))))))) (fun hc204=>?_) (fun hc204=>?_)
  ·rw [iteT hc204] at hF128
   simp only [qf,qe,qd,qa,qx,B0,reduceIte,reduceEqDiff]
   have e205:=qg hF128
   subst e205
   have ho206:=hr99 _ rfl
   have hk207:=hk97
   rw [ho206] at hk207
   dsimp only [jnO] at hk207
   apply hR103
   have he:=qg hk207
   subst he
   simp only [zi,B0,reduceIte,reduceEqDiff]
   exact rfl
  rw [iteF hc204] at hF128
  simp only [zh,qsi,qf,qe,f198,qt,qb,Nat.reduceAdd,Nat.zero_add,Nat.add_zero,qq,qn,B0,reduceIte,reduceEqDiff]
  refine qj (v:=lst cI x93.Read) rfl ?_
  simp only [zo,qb,zr,qd,qa,B0,reduceIte,reduceEqDiff]
  obtain ⟨oc210,hX212,hk213⟩:=jj hF128
  simp only [q2b]
  refine j8 (σ:=Unit) x93.Read (fun i208 x209 _=>xk v_0 x93 i208 x209 ) (fun s fr' h'=>fr' 1 = .ref [.int .i64 v_0.Generation,
    lst Reader.cells v_0.Readers,lst cI v_0.Committed,
    lst cI v_0.Ends] 0∧fr' 3 = .int .i64 (List.length v_0.Ends:Int)∧fr' 8 = .int .i64 (i92:Int)∧fr' 9 = .ref [.bool x93.In,.int .i64 x93.Generation,
    lst cI x93.Share,lst cI x93.Read] 0∧fr' 57=lst Reader.cells v_0.Readers∧fr' 58 = .int .i64 (List.length v_0.Readers:Int)∧fr' 59 = .int .i64
    (i92:Int)∧fr' 101=lst cI x93.Read∧Sep h' (geL h.length) ([])) hX212 ⟨f195,f196,f197,f198,f199,f200,f201,rfl,hS203⟩ (by simp only [B0,reduceIte,
    reduceEqDiff]) (by simp only [B0,reduceIte,reduceEqDiff]) (fun _ _ _ h=>h) rfl rfl (fun _ _ _ _ h=>h) (fun _ _ _ _ h=>h) (fun _ _ _ _ h=>h) (by decide) ?_ ?_
  ·rintro i208 x209 _ fr222 h223 hx233 ⟨f225,f226,f227,f228,f229,f230,f231,f232,hS224⟩ f234 f235 oc211 hF214 hr215 Q216 hN217 hB221 hK218 hR219 hE220
   unfold xk at hF214
   simp only [qy4,qf,qe,f234,qd,f232,jo,B0,reduceIte,reduceEqDiff]
   refine qj (v := .ref (cI x209) 0) (j7 hx233 rfl) ?_
   simp only [qn,B0,reduceIte,reduceEqDiff]
   refine qj (v := .int .i64 x209) rfl ?_
   simp only [qd,qa,qvp,qf,qe,f225,qt,qb,Nat.reduceAdd,Nat.zero_add,Nat.add_zero,qq,qn,B0,reduceIte,reduceEqDiff]
   refine qj (v:=lst cI v_0.Ends) rfl ?_
   obtain ⟨x236,hx237,hF238⟩:=qh hF214
   simp only [qd,jo,B0,reduceIte,reduceEqDiff]
   refine qj (v := .ref (cI x236) 0) (wu hx237 rfl) ?_
   simp only [qn,B0,reduceIte,reduceEqDiff]
   refine qj (v := .int .i64 x236) rfl ?_
   simp only [qw,B0,reduceIte,reduceEqDiff]
   refine je rfl (qi qs (qi qs (qi qs qy))) (uv (fun b hb=>decide_eq_true hb) x209 0 x236 _ rfl) ?_
   simp only [jf,qb,jt,qd,B0,reduceIte,reduceEqDiff]
   obtain ⟨v242,hx243,hF244⟩:=qh hF238
   refine z4 10 (fun fr' h'=>Sep h' (geL h.length) ([])∧fr' 126 = .bool v242∧fr' 1 = .ref [.int .i64 v_0.Generation,lst Reader.cells v_0.Readers,
     lst cI v_0.Committed,lst cI v_0.Ends] 0∧fr' 3 = .int .i64 (List.length v_0.Ends:Int)∧fr' 8 = .int .i64 (i92:Int)∧fr' 9 = .ref [.bool x93.In,
     .int .i64 x93.Generation,lst cI x93.Share,
     lst cI x93.Read] 0∧fr' 57=lst Reader.cells v_0.Readers∧fr' 58 = .int .i64 (List.length v_0.Readers:Int)∧fr' 59 = .int .i64
     (i92:Int)∧fr' 101=lst cI x93.Read∧fr' 102 = .int .i64 (List.length x93.Read:Int)∧fr' 103 = .int .i64 (i208:Int)) (fun Q239 hN240=>?_) ?_
   ·simp only [List.take_succ_cons,List.take_zero]
    simp only [qc (g:=116),B0,reduceIte,reduceEqDiff]
    refine q8 (t:=(!(zq x209 0 x236))) (fun hg241=>?_) (fun hg241=>?_)
    ·rw [iteT hg241] at hx243
     simp only [hg241,qc (g:=116),zy,qc (g:=119),uq,qr,qb,zk,qa,qm,B0,reduceIte,reduceEqDiff]
     have e245:=qg hx243
     exact hN240 _ _ ⟨hS224,by rw [←e245]; simp only [B0,reduceIte,reduceEqDiff],f225,f226,f227,f228,f229,f230,f231,f232,f235,f234⟩
    ·rw [iteF hg241] at hx243
     simp only [hg241,qc (g:=116),qo,qd,q9,qb,wx,B0,reduceIte,reduceEqDiff]
     obtain ⟨v249,hx250,hF251⟩:=qh hx243
     refine z4 6 (fun fr' h'=>Sep h' (geL h.length) ([])∧fr' 125 = .bool v249∧fr' 1 = .ref [.int .i64 v_0.Generation,lst Reader.cells v_0.Readers,
       lst cI v_0.Committed,lst cI v_0.Ends] 0∧fr' 3 = .int .i64 (List.length v_0.Ends:Int)∧fr' 8 = .int .i64 (i92:Int)∧fr' 9 = .ref [.bool x93.In,
       .int .i64 x93.Generation,lst cI x93.Share,
       lst cI x93.Read] 0∧fr' 57=lst Reader.cells v_0.Readers∧fr' 58 = .int .i64 (List.length v_0.Readers:Int)∧fr' 59 = .int .i64
       (i92:Int)∧fr' 101=lst cI x93.Read∧fr' 102 = .int .i64 (List.length x93.Read:Int)∧fr' 103 = .int .i64 (i208:Int)∧fr' 116 = .bool
       (!(zq x209 0 x236))) (fun Q246 hN247=>?_) ?_
     ·simp only [List.take_succ_cons,List.take_zero]
      simp only [qc (g:=119),B0,reduceIte,reduceEqDiff]
      refine q8 (t:=(decide (x209≠0))) (fun hg248=>?_) (fun hg248=>?_)
      ·rw [iteT hg248] at hx250
       simp only [hg248,qc (g:=119),zf,f228,qt,qb,Nat.reduceAdd,Nat.zero_add,Nat.add_zero,qq,qn,B0,reduceIte,reduceEqDiff]
       refine qj (v:=lst cI x93.Share) rfl ?_
       obtain ⟨v252,hx253,hF254⟩:=qh hx250
       simp only [hg248,qc (g:=119),zf,qd,qw,B0,reduceIte,reduceEqDiff]
       refine je rfl (qi ze (qi qs qy)) (x8 (fun b hb=>decide_eq_true hb) x93.Share (i208:Int) v252 hx253) ?_
       simp only [hg248,qc (g:=119),zf,jf,qb,jt,hg241,qc (g:=116),qo,qr,zk,qa,qm,B0,
         reduceIte,reduceEqDiff]
       have e255:=qg hF254
       exact hN247 _ _ ⟨hS224,by rw [←e255]; simp only [B0,reduceIte,reduceEqDiff],f225,f226,f227,f228,f229,f230,f231,f232,f235,f234,by simp only [hg241,B0,
         reduceIte,reduceEqDiff]⟩
      ·rw [iteF hg248] at hx250
       simp only [hg248,qc (g:=119),jh,hg241,qc (g:=116),qo,qr,qb,zj,qa,qm,B0,reduceIte,
         reduceEqDiff]
       have e256:=qg hx250
       exact hN247 _ _ ⟨hS224,by rw [←e256]; simp only [B0,reduceIte,reduceEqDiff],f225,f226,f227,f228,f229,f230,f231,f232,f235,f234,by simp only [hg241,B0,
         reduceIte,reduceEqDiff]⟩
     rintro fr257 h270 ⟨hS271,f258,f259,f260,f261,f262,f263,f264,f265,f266,f267,f268,f269⟩
     simp only [List.drop_succ_cons,List.drop_zero]
     simp only [f269,hg241,qr,qb,zj,f258,qa,qm,B0,reduceIte,reduceEqDiff]
     have e272:=qg hF251
     exact hN240 _ _ ⟨hS271,by rw [←e272]; simp only [B0,reduceIte,reduceEqDiff],f259,f260,f261,f262,f263,f264,f265,f266,f267,f268⟩
   rintro fr273 h285 ⟨hS286,f274,f275,f276,f277,f278,f279,f280,f281,f282,f283,f284⟩
   simp only [List.drop_succ_cons,List.drop_zero]
   simp only [qa,f274,za,B0,reduceIte,reduceEqDiff]
   refine qz (t:=v242) (fun hc287=>?_) (fun hc287=>?_)
   ·rw [iteT hc287] at hF244
    simp only [qf,qe,qd,qa,qx,B0,reduceIte,reduceEqDiff]
    have e288:=qg hF244
    subst e288
    have ho289:=hr215 _ rfl
    have hk290:=hk213
    rw [ho289] at hk290
    dsimp only [jnO] at hk290
    apply hR219
    have e291:=qg hk290
    subst e291
    have ho292:=hr99 _ rfl
    have hk293:=hk97
    rw [ho292] at hk293
    dsimp only [jnO] at hk293
    apply hR103
    have he:=qg hk293
    subst he
    simp only [zi,B0,reduceIte,reduceEqDiff]
    exact rfl
   rw [iteF hc287] at hF244
   simp only [zh,qm,B0,reduceIte,reduceEqDiff]
   have e294:=qg hF244
   exact hN217 _ _ _ e294.symm ⟨f275,f276,f277,f278,f279,f280,f281,f282,hS286⟩ (f284) (f283)
  rintro _ fr296 h297 rfl ⟨f299,f300,f301,f302,f303,f304,f305,f306,hS298⟩
  dsimp only [jnO] at hk213
  unfold qa0 at hk213
  simp only [qr5,qf,jc,f302,zv,ql,Nat.reduceAdd,Nat.zero_add,Nat.add_zero,qq,zm,B0,reduceIte,reduceEqDiff]
  refine qp (v := .bool x93.In) rfl ?_
  simp only [z8,ql,B0,reduceIte,reduceEqDiff]
  refine qc2 6 (fun fr' h'=>Sep h' (geL h.length) ([])∧fr' 136 = .bool (x93.In&&(decide (x93.Generation=v_0.Generation)))∧fr' 1 = .ref [.int .i64 v_0.Generation,
    lst Reader.cells v_0.Readers,lst cI v_0.Committed,
    lst cI v_0.Ends] 0∧fr' 3 = .int .i64 (List.length v_0.Ends:Int)∧fr' 8 = .int .i64 (i92:Int)∧fr' 9 = .ref [.bool x93.In,.int .i64 x93.Generation,
    lst cI x93.Share,lst cI x93.Read] 0∧fr' 57=lst Reader.cells v_0.Readers∧fr' 58 = .int .i64 (List.length v_0.Readers:Int)∧fr' 59 = .int .i64 (i92:Int)) rfl
    (fun Q307 hN308=>?_) ?_
  ·simp only [List.take_succ_cons,List.take_zero]
   simp only [qv (g:=130),B0,reduceIte,reduceEqDiff]
   refine kj (t:=x93.In) (fun hg309=>?_) (fun hg309=>?_)
   ·simp only [hg309,qv (g:=130),j5,f302,zv,ql,Nat.reduceAdd,Nat.zero_add,Nat.add_zero,qq,zm,B0,reduceIte,reduceEqDiff]
    refine qp (v := .int .i64 x93.Generation) rfl ?_
    simp only [hg309,qv (g:=130),j5,f299,zv,ql,Nat.reduceAdd,Nat.zero_add,Nat.add_zero,qq,zm,B0,reduceIte,reduceEqDiff]
    refine qp (v := .int .i64 v_0.Generation) rfl ?_
    simp only [hg309,qv (g:=130),j5,yh,ql,yx,jx,zk,zc,qm,B0,reduceIte,reduceEqDiff]
    exact hN308 _ _ ⟨hS298,by rw [xj hg309]; simp only [B0,reduceIte,reduceEqDiff],f299,f300,f301,by simp only [f302,B0,reduceIte,reduceEqDiff,hg309],f303,f304,
      f305⟩
   ·simp only [hg309,qv (g:=130),qcn,jx,ql,zj,zc,qm,B0,reduceIte,reduceEqDiff]
    exact hN308 _ _ ⟨hS298,by rw [xy hg309]; simp only [B0,reduceIte,reduceEqDiff],f299,f300,f301,by simp only [f302,B0,reduceIte,reduceEqDiff,hg309],f303,f304,
      f305⟩
  rintro fr310 h319 ⟨hS320,f311,f312,f313,f314,f315,f316,f317,f318⟩
  simp only [List.drop_succ_cons,List.drop_zero]
  simp only [f311,z8,ql,B0,reduceIte,reduceEqDiff]
  simp only [qv (g:=137),B0,reduceIte,reduceEqDiff]
  refine kj (t:=(x93.In&&(decide (x93.Generation=v_0.Generation)))) (fun hg321=>?_) (fun hg321=>?_)
  ·rw [iteT hg321] at hk213
   simp only [hg321,qv (g:=137),j5,f315,qg0,ql,Nat.reduceAdd,Nat.zero_add,Nat.add_zero,qq,qcu,qba,B0,reduceIte,
     reduceEqDiff]
   refine qp (v:=lst cI x93.Share) rfl ?_
   simp only [hg321,qv (g:=137),j5,f312,zm,B0,reduceIte,reduceEqDiff]
   refine qp (v := .agg [.int .i64 v_0.Generation,lst Reader.cells v_0.Readers,lst cI v_0.Committed,lst cI v_0.Ends]) rfl ?_
   obtain ⟨v322,hx323,hF324⟩:=qh hk213
   simp only [hg321,qv (g:=137),j5,f314,z8,ql,ut,B0,reduceIte,reduceEqDiff]
   refine qjf rfl hS320 (qi (jb (qi qs (qi ze (qi ze (qi ze qy))))) (qi qs qy)) (qa8
     (fun b hb=>decide_eq_true hb) v_0 (i92:Int) v322 hx323) ?_
   rintro v325 h329 ⟨_,c326,rfl,hv327,hS330⟩
   refine ⟨_,qgs (SlF.free1 hv327),hS330,(z0 (SlF.pf hv327 (fun _=>rfl)) yc),fun h331 hS332=>?_⟩
   have hS333:Sep h331 (geL h.length) (c326++([])):=by simpa only [List.append_assoc,List.nil_append] using hS332
   obtain ⟨v334,hx335,hF336⟩:=qh hF324
   simp only [hg321,qv (g:=137),j5,y5,B0,reduceIte,reduceEqDiff]
   refine qel rfl (qi ze (qi (SlF.snap hv327 hS333 rfl (fun _=>rfl) (fun _=>rfl)) qy)) (qh3
     (fun b hb=>decide_eq_true hb) x93.Share v322 v334 hx335) ?_
   simp only [hg321,qv (g:=137),j5,qf5,ql,jt,jx,zk,zc,za,B0,reduceIte,reduceEqDiff]
   refine qz (t:=(!v334)) (fun hc337=>?_) (fun hc337=>?_)
   ·rw [iteT hc337] at hF336
    simp only [qf,qe,qd,qa,qx,B0,reduceIte,reduceEqDiff]
    have e338:=qg hF336
    subst e338
    have ho339:=hr99 _ rfl
    have hk340:=hk97
    rw [ho339] at hk340
    dsimp only [jnO] at hk340
    apply hR103
    have he:=qg hk340
    subst he
    simp only [zi,B0,reduceIte,reduceEqDiff]
    exact rfl
   rw [iteF hc337] at hF336
   simp only [zh,qm,B0,reduceIte,reduceEqDiff]
   have e341:=qg hF336
   exact hN101 _ _ _ e341.symm ⟨f312,f313,f316,(Sep.dc (hS333))⟩ (f318) (f317)
  rw [iteF hg321] at hk213
  simp only [hg321,qv (g:=137),qcn,jx,ql,zj,zc,za,qog,zh,qm,B0,reduceIte,reduceEqDiff]
  have e342:=qg hk213
  exact hN101 _ _ _ e342.symm ⟨f312,f313,f316,hS320⟩ (f318) (f317)
 rintro _ fr345 h346 rfl ⟨f348,f349,f350,hS347⟩
 dsimp only [jnO] at hk97
 unfold qem at hk97
 simp only [qf,qe,qd,qa,qx,B0,reduceIte,reduceEqDiff]
 have he:=qg hk97
 subst he
 simp only [zi,B0,reduceIte,reduceEqDiff]
 exact rfl
theorem qep {W:Nat→Bool}{h:Heap} (hW:∀ b,
  (geL h.length) b→W b=true) (r_0:Readers_) (r:Bool) (hF:u7 r_0=some r) : Ret E W 12 [.agg [.int .i64 r_0.Generation,lst Reader.cells r_0.Readers,
  lst cI r_0.Committed,lst cI r_0.Ends]] h (fun v h'=>cut h.length h' E.sz false 9 v=some (.bool r)):=by
 refine Ret.of (fn:=x12) rfl (Run.of ?_)
 unfold u7 at hF
 have zf0:zb [.agg [.int .i64 r_0.Generation,lst Reader.cells r_0.Readers,lst cI r_0.Committed,lst cI r_0.Ends]] 0 = .agg [.int .i64 r_0.Generation,
   lst Reader.cells r_0.Readers,lst cI r_0.Committed,lst cI r_0.Ends]:=rfl
 generalize zb [.agg [.int .i64 r_0.Generation,lst Reader.cells r_0.Readers,lst cI r_0.Committed,lst cI r_0.Ends]]=fr0 at zf0 ⊢
 have hS:Sep h (geL h.length) []:=Sep.nil h
 simp only [x12,qf,qe,jy,zf0,B0,reduceIte,reduceEqDiff]
 refine jk (cs:=[.int .i64 r_0.Generation,lst Reader.cells r_0.Readers,lst cI r_0.Committed,lst cI r_0.Ends]) hS rfl rfl rfl (fun b1 h2 hS3=>?_)
 simp only [qd,qa,B0,reduceIte,reduceEqDiff]
 refine zu hS3 hW (by simp only [B0,reduceIte,reduceEqDiff]) (fun h5 hS6=>?_)
 simp only [zp,qf,qe,qn,B0,reduceIte,reduceEqDiff]
 refine qj (v := .agg [.int .i64 r_0.Generation,lst Reader.cells r_0.Readers,lst cI r_0.Committed,lst cI r_0.Ends]) rfl ?_
 obtain ⟨v7,hx8,hF9⟩:=qh hF
 simp only [qw,B0,reduceIte,reduceEqDiff]
 refine je rfl (qi (jb (qi qs (qi ze (qi ze (qi ze qy))))) qy) (uk
   (fun b hb=>decide_eq_true hb) r_0 v7 hx8) ?_
 simp only [qd,qa,qx,B0,reduceIte,reduceEqDiff]
 have he:=qg hF9
 subst he
 simp only [zi,B0,reduceIte,reduceEqDiff]
 exact rfl
theorem qoc {W:Nat→Bool}{h:Heap} (hW:∀ b,
  (geL h.length) b→W b=true) (l_0:List Int) (n_1:Int) (r:Bool) (hF:qfu l_0 n_1=some r) : Ret E W 13 [lst cI l_0,
  .int .i64 n_1] h (fun v h'=>cut h.length h' E.sz false 9 v=some (.bool r)):=by
 refine Ret.of (fn:=x13) rfl (Run.of ?_)
 unfold qfu at hF
 have zf0:zb [lst cI l_0,.int .i64 n_1] 0=lst cI l_0:=rfl
 have zf1:zb [lst cI l_0,.int .i64 n_1] 1 = .int .i64 n_1:=rfl
 generalize zb [lst cI l_0,.int .i64 n_1]=fr0 at zf0 zf1 ⊢
 have hS:Sep h (geL h.length) []:=Sep.nil h
 simp only [x13,qf,qe,qd,qa,qxh,zf0,zo,qb,zr,B0,reduceIte,reduceEqDiff]
 obtain ⟨oc3,hX5,hk6⟩:=jj hF
 simp only [qzx]
 refine j8 (σ:=Unit) l_0 (fun i1 x2 _=>qef n_1 i1 x2 ) (fun s fr' h'=>fr' 1 = .int .i64 n_1∧fr' 7=lst cI l_0∧Sep h' (geL h.length) ([])) hX5 ⟨zf1,rfl,
   hS⟩ (by simp only [B0,reduceIte,reduceEqDiff]) (by simp only [B0,reduceIte,
   reduceEqDiff]) (fun _ _ _ h=>h) rfl rfl (fun _ _ _ _ h=>h) (fun _ _ _ _ h=>h) (fun _ _ _ _ h=>h) (by decide) ?_ ?_
 ·rintro i1 x2 _ fr15 h16 hx20 ⟨f18,f19,hS17⟩ f21 f22 oc4 hF7 hr8 Q9 hN10 hB14 hK11 hR12 hE13
  unfold qef at hF7
  simp only [qx0,qf,qe,f19,f21,jo,B0,reduceIte,reduceEqDiff]
  refine qj (v := .ref (cI x2) 0) (j7 hx20 rfl) ?_
  simp only [qn,B0,reduceIte,reduceEqDiff]
  refine qj (v := .int .i64 x2) rfl ?_
  simp only [qd,qa,qwv,qf,qe,f18,q9,qb,yx,za,B0,reduceIte,reduceEqDiff]
  refine qz (t:=(decide (x2=n_1))) (fun hc23=>?_) (fun hc23=>?_)
  ·rw [iteT hc23] at hF7
   simp only [qf,qe,qd,qa,qx,B0,reduceIte,reduceEqDiff]
   have e24:=qg hF7
   subst e24
   have ho25:=hr8 _ rfl
   have hk26:=hk6
   rw [ho25] at hk26
   dsimp only [jnO] at hk26
   apply hR12
   have he:=qg hk26
   subst he
   simp only [zi,B0,reduceIte,reduceEqDiff]
   exact rfl
  rw [iteF hc23] at hF7
  simp only [zh,qm,B0,reduceIte,reduceEqDiff]
  have e27:=qg hF7
  exact hN10 _ _ _ e27.symm ⟨f18,f19,hS17⟩ (f21) (f22)
 rintro _ fr29 h30 rfl ⟨f32,f33,hS31⟩
 dsimp only [jnO] at hk6
 unfold qiz at hk6
 simp only [qf,qe,qd,qa,qx,B0,reduceIte,reduceEqDiff]
 have he:=qg hk6
 subst he
 simp only [zi,B0,reduceIte,reduceEqDiff]
 exact rfl
theorem qfe {W:Nat→Bool}{h:Heap} (hW:∀ b,
  (geL h.length) b→W b=true) (s_0:List Reader) {g1:Nat} {caps1:List XV} (hm1:E.mode g1=1) (f_1:Reader→Option Bool) (hf1:∀ (W:Nat→Bool) (h:Heap),(∀ b,
  h.length≤b→W b=true)→∀ a0 r,f_1 a0=some r→Ret E W g1 ([.agg [.bool a0.In,.int .i64 a0.Generation,lst cI a0.Share,
  lst cI a0.Read]]++caps1) h (fun v h'=>cut h.length h' E.sz false 9 v=some (.bool r))) (r:Int)
  (hF:yu s_0 f_1=some r) : Ret E W 56 [lst Reader.cells s_0,.fn g1 caps1] h (fun v h'=>cut h.length h' E.sz false 9 v=some (.int .i64 r)):=by
 refine Ret.of (fn:=x56) rfl (Run.of ?_)
 unfold yu at hF
 have zf0:zb [lst Reader.cells s_0,.fn g1 caps1] 0=lst Reader.cells s_0:=rfl
 have zf1:zb [lst Reader.cells s_0,.fn g1 caps1] 1 = .fn g1 caps1:=rfl
 generalize zb [lst Reader.cells s_0,.fn g1 caps1]=fr0 at zf0 zf1 ⊢
 have hS:Sep h (geL h.length) []:=Sep.nil h
 simp only [x56,qf,qe,qd,qa,qz7,zf0,zo,qb,zr,B0,reduceIte,reduceEqDiff]
 obtain ⟨oc3,hX5,hk6⟩:=jj hF
 simp only [qzw]
 refine j8 (σ:=Unit) s_0 (fun i1 x2 _=>ye f_1 i1 x2 ) (fun s fr' h'=>fr' 0=lst Reader.cells s_0∧fr' 1 = .fn g1 caps1∧Sep h'
   (geL h.length) ([])) hX5 ⟨zf0,zf1,hS⟩ (by simp only [B0,reduceIte,reduceEqDiff]) (by simp only [B0,reduceIte,
   reduceEqDiff]) (fun _ _ _ h=>h) rfl rfl (fun _ _ _ _ h=>h) (fun _ _ _ _ h=>h) (fun _ _ _ _ h=>h) (by decide) ?_ ?_
 ·rintro i1 x2 _ fr15 h16 hx20 ⟨f18,f19,hS17⟩ f21 f22 oc4 hF7 hr8 Q9 hN10 hB14 hK11 hR12 hE13
  unfold ye at hF7
  simp only [qzs,qf,qe,f21,qd,qa,qwp,f19,f18,jo,B0,reduceIte,reduceEqDiff]
  refine qj (v := .ref (Reader.cells x2) 0) (j7 hx20 rfl) ?_
  simp only [qn,B0,reduceIte,reduceEqDiff]
  refine qj (v := .agg [.bool x2.In,.int .i64 x2.Generation,lst cI x2.Share,lst cI x2.Read]) rfl ?_
  obtain ⟨v23,hx24,hF25⟩:=qh hF7
  simp only [qw,B0,reduceIte,reduceEqDiff]
  refine je hm1 (qi (jb (qi qkq (qi qs (qi ze (qi ze qy))))) qy) (hf1 _ _ (fun b hb=>decide_eq_true hb) x2 v23 hx24) ?_
  simp only [qa,qv6,za,B0,reduceIte,reduceEqDiff]
  refine qz (t:=v23) (fun hc26=>?_) (fun hc26=>?_)
  ·rw [iteT hc26] at hF25
   simp only [qf,qe,qd,qa,qx,B0,reduceIte,reduceEqDiff]
   have e27:=qg hF25
   subst e27
   have ho28:=hr8 _ rfl
   have hk29:=hk6
   rw [ho28] at hk29
   dsimp only [jnO] at hk29
   apply hR12
   have he:=qg hk29
   subst he
   simp only [zi,B0,reduceIte,reduceEqDiff]
   exact rfl
  rw [iteF hc26] at hF25
  simp only [zh,qm,B0,reduceIte,reduceEqDiff]
  have e30:=qg hF25
  exact hN10 _ _ _ e30.symm ⟨f18,f19,hS17⟩ (f21) (f22)
 rintro _ fr32 h33 rfl ⟨f35,f36,hS34⟩
 dsimp only [jnO] at hk6
 unfold qbt at hk6
 simp only [qf,qe,qd,qa,qx,B0,reduceIte,reduceEqDiff]
 have he:=qg hk6
 subst he
 simp only [zi,B0,reduceIte,reduceEqDiff]
 exact rfl
end Go.Proofs.Ytdhibknhejhfaaa.X
