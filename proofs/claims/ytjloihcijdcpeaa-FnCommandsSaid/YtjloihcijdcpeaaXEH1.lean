/- The functions' code comes to what the plain functions say (1). -/
import Derived.Test.YtjloihcijdcpeaaXEF
import Derived.Test.YtjloihcijdcpeaaXED
open Go.IntKind renaming wrap→d8
open List renaming append_assoc→f6,drop_succ_cons→b7,drop_zero→e8,length→b6,take_succ_cons→d7,take_zero→e9
open Nat renaming add_zero→b4,reduceAdd→a8,reduceEqDiff→a7,zero_add→a9
open Go.Proofs.Ytjloihcijdcpeaa.X.Sep renaming m1→f8,nil→a0t
open Go.Proofs.Ytjloihcijdcpeaa.X.SlF renaming free1→a0k,one→n7,pf→a1n,snap→a0g
set_option linter.unusedVariables false
set_option linter.unusedSimpArgs false
set_option maxRecDepth 100000
namespace Go.Proofs.Ytjloihcijdcpeaa.X
open Go
def Partition.R:Rep Partition:=fun x cs os=>∃ (v0:XV) (c0:List Obj) (v1:XV) (c1:List Obj),SlF cI 1 3 v0 x.Homes c0∧SlF cI 1 3 v1 x.InStep c1∧cs=[v0,v1,
  .int .i64 x.Leader,.int .i64 x.Epoch,.int .i64 x.Stamp]∧c0++(c1)=os
theorem Partition.RI {x:Partition}{v0:XV}{c0:List Obj}(h0:SlF cI 1 3 v0 x.Homes c0){v1:XV}{c1:List Obj}(h1:SlF cI 1 3 v1 x.InStep c1) : Partition.R x [v0,v1,
  .int .i64 x.Leader,.int .i64 x.Epoch,.int .i64 x.Stamp] (c0++(c1)):=⟨v0,c0,v1,c1,h0,h1,rfl,rfl⟩
theorem Partition.RO:RepOk E.sz Partition.R qd 5 where
 len:=fun {x cs os} H=>by
  obtain ⟨v0,c0,v1,c1,h0,h1,rfl,rfl⟩:=H
  rfl
 flen:=fun _=>rfl
 one:=fun {x cs os} H=>by
  obtain ⟨v0,c0,v1,c1,h0,h1,rfl,rfl⟩:=H
  exact (qo (n7 h0) (qo (n7 h1) (qo rfl (qo rfl (qo rfl zl)))))
 snap:=fun {x cs os h lo S} m H hS=>by
  obtain ⟨v0,c0,v1,c1,h0,h1,rfl,rfl⟩:=H
  have hS2:Sep h lo (c0++(c1++S)):=(by simpa only [f6] using hS)
  exact (ql (a0g h0 hS2 rfl (fun _=>rfl) (fun _=>rfl)) (ql (a0g h1 (f8 hS2) rfl (fun _=>rfl) (fun _=>rfl)) (ql qu (ql qu
    (ql qu zd)))))
 cut:=fun {x cs os h lo n0 keep S} m H hS hge=>by
  obtain ⟨v0,c0,v1,c1,h0,h1,rfl,rfl⟩:=H
  have hS2:Sep h lo (c0++(c1++S)):=(by simpa only [f6] using hS)
  exact (ql (SlF.cut h0 hS2 hge rfl (fun _=>rfl) (fun _=>rfl)) (ql (SlF.cut h1 (f8 hS2) hge rfl (fun _=>rfl) (fun _=>rfl)) (ql rfl (ql rfl
    (ql rfl zd)))))
 free:=fun {x cs os} H=>by
  obtain ⟨v0,c0,v1,c1,h0,h1,rfl,rfl⟩:=H
  exact (qo (a0k h0) (qo (a0k h1) (qo rfl (qo rfl (qo rfl zl)))))
 pf:=fun {x cs os} H=>by
  obtain ⟨v0,c0,v1,c1,h0,h1,rfl,rfl⟩:=H
  exact (jg (a1n h0 (fun _=>rfl)) (a1n h1 (fun _=>rfl)))
def Command.R:Rep Command:=fun x cs os=>∃ (v5:XV) (c5:List Obj),SlF cI 1 3 v5 x.InStep c5∧cs=[.int .i64 x.Kind,.int .i64 x.Broker,.int .i64 x.Epoch,
  .int .i64 x.Part,.int .i64 x.Stamp,v5]∧c5=os
theorem Command.RI {x:Command}{v5:XV}{c5:List Obj}(h5:SlF cI 1 3 v5 x.InStep c5) : Command.R x [.int .i64 x.Kind,.int .i64 x.Broker,.int .i64 x.Epoch,
  .int .i64 x.Part,.int .i64 x.Stamp,v5] (c5):=⟨v5,c5,h5,rfl,rfl⟩
theorem Command.RO:RepOk E.sz Command.R w8 6 where
 len:=fun {x cs os} H=>by
  obtain ⟨v5,c5,h5,rfl,rfl⟩:=H
  rfl
 flen:=fun _=>rfl
 one:=fun {x cs os} H=>by
  obtain ⟨v5,c5,h5,rfl,rfl⟩:=H
  exact (qo rfl (qo rfl (qo rfl (qo rfl (qo rfl (qo (n7 h5) zl))))))
 snap:=fun {x cs os h lo S} m H hS=>by
  obtain ⟨v5,c5,h5,rfl,rfl⟩:=H
  have hS2:Sep h lo (c5++S):=(by simpa only [f6] using hS)
  exact (ql qu (ql qu (ql qu (ql qu (ql qu (ql (a0g h5 hS2 rfl (fun _=>rfl) (fun _=>rfl)) zd))))))
 cut:=fun {x cs os h lo n0 keep S} m H hS hge=>by
  obtain ⟨v5,c5,h5,rfl,rfl⟩:=H
  have hS2:Sep h lo (c5++S):=(by simpa only [f6] using hS)
  exact (ql rfl (ql rfl (ql rfl (ql rfl (ql rfl (ql (SlF.cut h5 hS2 hge rfl (fun _=>rfl) (fun _=>rfl)) zd))))))
 free:=fun {x cs os} H=>by
  obtain ⟨v5,c5,h5,rfl,rfl⟩:=H
  exact (qo rfl (qo rfl (qo rfl (qo rfl (qo rfl (qo (a0k h5) zl))))))
 pf:=fun {x cs os} H=>by
  obtain ⟨v5,c5,h5,rfl,rfl⟩:=H
  exact (a1n h5 (fun _=>rfl))
theorem wx {W:Nat→Bool}{h:Heap} (hW:∀ b,
  (geL h.length) b→W b=true) (a_0:List Int) (b_1:List Int) (r:Bool) (hF:kh a_0 b_1=some r) : Ret E W 10 [lst cI a_0,
  lst cI b_1] h (fun v h'=>cut h.length h' E.sz false 9 v=some (.bool r)):=by
 refine Ret.of (fn:=x10) rfl (Run.of ?_)
 unfold kh at hF
 have zf0:zj [lst cI a_0,lst cI b_1] 0=lst cI a_0:=rfl
 have zf1:zj [lst cI a_0,lst cI b_1] 1=lst cI b_1:=rfl
 generalize zj [lst cI a_0,lst cI b_1]=fr0 at zf0 zf1 ⊢
 have hS:Sep h (geL h.length) []:=a0t h
 simp only [x10,qh,qf,qg,qa,q22,zf0,zx,qb,z1,zf1,qv,wm,qz,B0,reduceIte,a7]
 refine qx (t:=(decide ((b6 a_0:Int)≠(b6 b_1:Int)))) (fun hc1=>?_) (fun hc1=>?_)
 ·rw [iteT hc1] at hF
  simp only [qh,qf,qg,qa,q8,B0,reduceIte,a7]
  have he:=qj hF
  subst he
  simp only [zg,B0,reduceIte,a7]
  exact rfl
 rw [iteF hc1] at hF
 simp only [zf,q4o,qh,qf,zf0,qg,zx,qb,z1,qa,B0,reduceIte,a7]
 obtain ⟨oc4,hX6,hk7⟩:=jo hF
 simp only [q4a]
 refine ku (σ:=Unit) a_0 (fun i2 x3 _=>qa4 b_1 i2 x3 ) (fun s fr' h'=>fr' 0=lst cI a_0∧fr' 1=lst cI b_1∧Sep h' (geL h.length) ([])) hX6 ⟨zf0,
   zf1,hS⟩ (by simp only [B0,reduceIte,a7]) (by simp only [B0,reduceIte,
   a7]) (fun _ _ _ h=>h) rfl rfl (fun _ _ _ _ h=>h) (fun _ _ _ _ h=>h) (fun _ _ _ _ h=>h) (by decide) ?_ ?_
 ·rintro i2 x3 _ fr16 h17 hx21 ⟨f19,f20,hS18⟩ f22 f23 oc5 hF8 hr9 Q10 hN11 hB15 hK12 hR13 hE14
  unfold qa4 at hF8
  simp only [q0x,qh,qf,f22,qg,qa,q5s,ji,f19,jm,qt,wn,B0,reduceIte,a7]
  refine zc (v := .ref (cI x3) 0) (kt hx21 rfl) ?_
  simp only [z2,B0,reduceIte,a7]
  refine zc (v := .int .i64 x3) rfl ?_
  obtain ⟨x24,hx25,hF26⟩:=qk hF8
  simp only [f20,jm,qt,wn,B0,reduceIte,a7]
  refine zc (v := .ref (cI x24) 0) (uw hx25 rfl) ?_
  simp only [z2,B0,reduceIte,a7]
  refine zc (v := .int .i64 x24) rfl ?_
  simp only [wt,qt,wm,zm,qz,B0,reduceIte,a7]
  refine qx (t:=(decide (x3≠x24))) (fun hc27=>?_) (fun hc27=>?_)
  ·rw [iteT hc27] at hF26
   simp only [qh,qf,qg,qa,q8,B0,reduceIte,a7]
   have e28:=qj hF26
   subst e28
   have ho29:=hr9 _ rfl
   have hk30:=hk7
   rw [ho29] at hk30
   dsimp only [jnO] at hk30
   apply hR13
   have he:=qj hk30
   subst he
   simp only [zg,B0,reduceIte,a7]
   exact rfl
  rw [iteF hc27] at hF26
  simp only [zf,qn,B0,reduceIte,a7]
  have e31:=qj hF26
  exact hN11 _ _ _ e31.symm ⟨f19,f20,hS18⟩ (f22) (f23)
 rintro _ fr33 h34 rfl ⟨f36,f37,hS35⟩
 dsimp only [jnO] at hk7
 unfold qhb at hk7
 simp only [qh,qf,qg,qa,q8,B0,reduceIte,a7]
 have he:=qj hk7
 subst he
 simp only [zg,B0,reduceIte,a7]
 exact rfl
theorem qcz {W:Nat→Bool}{h:Heap} (hW:∀ b,
  (geL h.length) b→W b=true) (v_0:Control) (v_1:Control) (r:Bool) (hF:yz v_0 v_1=some r) : Ret E W 11 [.agg [lst qe v_0.Brokers,
  lst qd v_0.Parts,.int .i64 v_0.Next],.agg [lst qe v_1.Brokers,lst qd v_1.Parts,
  .int .i64 v_1.Next]] h (fun v h'=>cut h.length h' E.sz false 9 v=some (.bool r)):=by
 refine Ret.of (fn:=x11) rfl (Run.of ?_)
 unfold yz at hF
 have zf0:zj [.agg [lst qe v_0.Brokers,lst qd v_0.Parts,.int .i64 v_0.Next],.agg [lst qe v_1.Brokers,lst qd v_1.Parts,
   .int .i64 v_1.Next]] 0 = .agg [lst qe v_0.Brokers,lst qd v_0.Parts,.int .i64 v_0.Next]:=rfl
 have zf1:zj [.agg [lst qe v_0.Brokers,lst qd v_0.Parts,.int .i64 v_0.Next],.agg [lst qe v_1.Brokers,lst qd v_1.Parts,
   .int .i64 v_1.Next]] 1 = .agg [lst qe v_1.Brokers,lst qd v_1.Parts,.int .i64 v_1.Next]:=rfl
 generalize zj [.agg [lst qe v_0.Brokers,lst qd v_0.Parts,.int .i64 v_0.Next],.agg [lst qe v_1.Brokers,lst qd v_1.Parts,
   .int .i64 v_1.Next]]=fr0 at zf0 zf1 ⊢
 have hS:Sep h (geL h.length) []:=a0t h
 simp only [x11,qh,qf,jp,zf0,B0,reduceIte,a7]
 refine jc (cs:=[lst qe v_0.Brokers,lst qd v_0.Parts,.int .i64 v_0.Next]) hS rfl rfl rfl (fun b1 h2 hS3=>?_)
 simp only [jp,zf1,B0,reduceIte,a7]
 refine jc (cs:=[lst qe v_1.Brokers,lst qd v_1.Parts,.int .i64 v_1.Next]) hS3 rfl rfl rfl (fun b5 h6 hS7=>?_)
 simp only [qg,qa,B0,reduceIte,a7]
 refine zq (f8 hS7) hW (by simp only [B0,reduceIte,a7]) (fun h9 hS10=>?_)
 refine zq hS10 hW (by simp only [B0,reduceIte,a7]) (fun h11 hS12=>?_)
 simp only [zp,qqe,qh,qf,qp,qb,a8,a9,b4,qs,qm,B0,reduceIte,a7]
 refine qi (v := .int .i64 v_0.Next) rfl ?_
 simp only [qp,qb,a8,a9,b4,qs,qm,B0,reduceIte,a7]
 refine qi (v := .int .i64 v_1.Next) rfl ?_
 simp only [qv,qb,wm,qg,B0,reduceIte,a7]
 refine zr 8 (fun fr' h'=>Sep h' (geL h.length) ([])∧fr' 22 = .bool ((decide (v_0.Next≠v_1.Next))||(decide ((b6 v_0.Brokers:Int) ≠
   (b6 v_1.Brokers:Int))))∧fr' 2 = .ref [lst qe v_0.Brokers,lst qd v_0.Parts,
   .int .i64 v_0.Next] 0∧fr' 3 = .ref [lst qe v_1.Brokers,lst qd v_1.Parts,.int .i64 v_1.Next] 0) (fun Q13 hN14=>?_) ?_
 ·simp only [d7,e9]
  simp only [qc (g:=14),B0,reduceIte,a7]
  refine qy (t:=(decide (v_0.Next≠v_1.Next))) (fun hg15=>?_) (fun hg15=>?_)
  ·simp only [hg15,qc (g:=14),zv,qr,qb,zh,qa,qn,B0,reduceIte,a7]
   exact hN14 _ _ ⟨hS12,by rw [orT hg15]; simp only [B0,reduceIte,a7],rfl,rfl⟩
  ·simp only [hg15,qc (g:=14),qq,qp,qb,a8,a9,b4,qs,qm,B0,reduceIte,a7]
   refine qi (v:=lst qe v_0.Brokers) rfl ?_
   simp only [hg15,qc (g:=14),qq,zx,qb,z1,qp,a8,a9,b4,qs,qm,B0,reduceIte,
     a7]
   refine qi (v:=lst qe v_1.Brokers) rfl ?_
   simp only [hg15,qc (g:=14),qq,zx,qb,z1,qv,wm,qr,zi,qa,qn,B0,reduceIte,a7]
   exact hN14 _ _ ⟨hS12,by rw [orF hg15]; simp only [B0,reduceIte,a7],rfl,rfl⟩
 rintro fr16 h20 ⟨hS21,f17,f18,f19⟩
 simp only [b7,e8]
 simp only [f17,qg,B0,reduceIte,a7]
 refine zr 8 (fun fr' h'=>Sep h' (geL h.length) ([])∧fr' 31 = .bool (((decide (v_0.Next≠v_1.Next))||(decide ((b6 v_0.Brokers:Int) ≠
   (b6 v_1.Brokers:Int))))||(decide ((b6 v_0.Parts:Int)≠(b6 v_1.Parts:Int))))∧fr' 2 = .ref [lst qe v_0.Brokers,
   lst qd v_0.Parts,.int .i64 v_0.Next] 0∧fr' 3 = .ref [lst qe v_1.Brokers,lst qd v_1.Parts,
   .int .i64 v_1.Next] 0) (fun Q22 hN23=>?_) ?_
 ·simp only [d7,e9]
  simp only [qc (g:=23),B0,reduceIte,a7]
  refine qy (t:=((decide (v_0.Next≠v_1.Next))||(decide ((b6 v_0.Brokers:Int)≠(b6 v_1.Brokers:Int))))) (fun hg24=>?_) (fun hg24=>?_)
  ·simp only [hg24,qc (g:=23),zv,qr,qb,zh,qa,qn,B0,reduceIte,a7]
   exact hN23 _ _ ⟨hS21,by rw [orT hg24]; simp only [B0,reduceIte,a7],f18,f19⟩
  ·simp only [hg24,qc (g:=23),qq,f18,qp,qb,a8,a9,b4,qs,qm,B0,reduceIte,a7]
   refine qi (v:=lst qd v_0.Parts) rfl ?_
   simp only [hg24,qc (g:=23),qq,zx,qb,z1,f19,qp,a8,a9,b4,qs,qm,B0,reduceIte,
     a7]
   refine qi (v:=lst qd v_1.Parts) rfl ?_
   simp only [hg24,qc (g:=23),qq,zx,qb,z1,qv,wm,qr,zi,qa,qn,B0,reduceIte,a7]
   exact hN23 _ _ ⟨hS21,by rw [orF hg24]; simp only [B0,reduceIte,a7],f18,f19⟩
 rintro fr25 h29 ⟨hS30,f26,f27,f28⟩
 simp only [b7,e8]
 simp only [qa,f26,qz,B0,reduceIte,a7]
 refine qx (t:=(((decide (v_0.Next≠v_1.Next))||(decide ((b6 v_0.Brokers:Int)≠(b6 v_1.Brokers:Int))))||(decide
   ((b6 v_0.Parts:Int)≠(b6 v_1.Parts:Int))))) (fun hc31=>?_) (fun hc31=>?_)
 ·rw [iteT hc31] at hF
  simp only [qh,qf,qg,qa,q8,B0,reduceIte,a7]
  have he:=qj hF
  subst he
  simp only [zg,B0,reduceIte,a7]
  exact rfl
 rw [iteF hc31] at hF
 simp only [zf,qvb,qh,qf,f27,qp,qb,a8,a9,b4,qs,qm,B0,reduceIte,a7]
 refine qi (v:=lst qe v_0.Brokers) rfl ?_
 simp only [zx,qb,z1,qg,qa,B0,reduceIte,a7]
 obtain ⟨oc34,hX36,hk37⟩:=jo hF
 simp only [q1r]
 refine qa8 (σ:=Unit) (fun i32 _=>qaw v_0 v_1 i32 ) (fun s fr' h'=>fr' 2 = .ref [lst qe v_0.Brokers,lst qd v_0.Parts,
   .int .i64 v_0.Next] 0∧fr' 3 = .ref [lst qe v_1.Brokers,lst qd v_1.Parts,.int .i64 v_1.Next] 0∧Sep h' (geL h.length) ([])) hX36 ⟨f27,f28,
   hS30⟩ (by simp only [B0,reduceIte,a7]) (by simp only [B0,reduceIte,
   a7]) (fun _ _ _ h=>h) rfl rfl (fun _ _ _ _ h=>h) (fun _ _ _ _ h=>h) (fun _ _ _ _ h=>h) (by decide) ?_ ?_
 ·rintro i32 _ fr46 h47 hx51 ⟨f49,f50,hS48⟩ f52 f53 oc35 hF38 hr39 Q40 hN41 hB45 hK42 hR43 hE44
  unfold qaw at hF38
  simp only [qy4,qh,qf,f52,qg,qa,q24,ji,f49,z3,qt,a8,a9,b4,qs,z2,B0,
    reduceIte,a7]
  refine zc (v:=lst qe v_0.Brokers) rfl ?_
  obtain ⟨x54,hx55,hF56⟩:=qk hF38
  simp only [jm,qt,wn,B0,reduceIte,a7]
  refine zc (v := .ref (qe x54) 0) (uw hx55 rfl) ?_
  simp only [z2,B0,reduceIte,a7]
  refine zc (v := .agg [.int .i64 x54.Epoch,.int .i64 x54.Left,.bool x54.Fenced]) rfl ?_
  simp only [f50,z3,qt,a8,a9,b4,qs,z2,B0,reduceIte,a7]
  refine zc (v:=lst qe v_1.Brokers) rfl ?_
  obtain ⟨x57,hx58,hF59⟩:=qk hF56
  simp only [jm,qt,wn,B0,reduceIte,a7]
  refine zc (v := .ref (qe x57) 0) (uw hx58 rfl) ?_
  simp only [z2,B0,reduceIte,a7]
  refine zc (v := .agg [.int .i64 x57.Epoch,.int .i64 x57.Left,.bool x57.Fenced]) rfl ?_
  simp only [zar,B0,reduceIte,a7]
  refine zc (v := .bool (!((x54.Epoch == x57.Epoch)&&((x54.Left == x57.Left)&&((x54.Fenced == x57.Fenced)&&true))))) rfl ?_
  simp only [zm,qz,B0,reduceIte,a7]
  refine qx (t:=(!((x54.Epoch == x57.Epoch)&&((x54.Left == x57.Left)&&((x54.Fenced == x57.Fenced)&&true))))) (fun hc60=>?_) (fun hc60=>?_)
  ·rw [iteT hc60] at hF59
   simp only [qh,qf,qg,qa,q8,B0,reduceIte,a7]
   have e61:=qj hF59
   subst e61
   have ho62:=hr39 _ rfl
   have hk63:=hk37
   rw [ho62] at hk63
   dsimp only [jnO] at hk63
   apply hR43
   have he:=qj hk63
   subst he
   simp only [zg,B0,reduceIte,a7]
   exact rfl
  rw [iteF hc60] at hF59
  simp only [zf,qn,B0,reduceIte,a7]
  have e64:=qj hF59
  exact hN41 _ _ _ e64.symm ⟨f49,f50,hS48⟩ (f52) (f53)
 rintro _ fr66 h67 rfl ⟨f69,f70,hS68⟩
 dsimp only [jnO] at hk37
 unfold qco at hk37
 simp only [qsd,qh,qf,f69,qp,qb,a8,a9,b4,qs,qm,B0,reduceIte,a7]
 refine qi (v:=lst qd v_0.Parts) rfl ?_
 simp only [zx,qb,z1,qg,qa,B0,reduceIte,a7]
 obtain ⟨oc73,hX75,hk76⟩:=jo hk37
 simp only [qqj]
 refine qa8 (σ:=Unit) (fun i71 _=>qau v_0 v_1 i71 ) (fun s fr' h'=>fr' 2 = .ref [lst qe v_0.Brokers,lst qd v_0.Parts,
   .int .i64 v_0.Next] 0∧fr' 3 = .ref [lst qe v_1.Brokers,lst qd v_1.Parts,.int .i64 v_1.Next] 0∧Sep h' (geL h.length) ([])) hX75 ⟨f69,f70,
   hS68⟩ (by simp only [B0,reduceIte,a7]) (by simp only [B0,reduceIte,
   a7]) (fun _ _ _ h=>h) rfl rfl (fun _ _ _ _ h=>h) (fun _ _ _ _ h=>h) (fun _ _ _ _ h=>h) (by decide) ?_ ?_
 ·rintro i71 _ fr85 h86 hx90 ⟨f88,f89,hS87⟩ f91 f92 oc74 hF77 hr78 Q79 hN80 hB84 hK81 hR82 hE83
  unfold qau at hF77
  simp only [q2g,qh,qf,f91,qg,qa,q3y,f88,qp,qb,a8,a9,b4,qs,qm,B0,reduceIte,
    a7]
  refine qi (v:=lst qd v_0.Parts) rfl ?_
  obtain ⟨x93,hx94,hF95⟩:=qk hF77
  simp only [qg,jf,B0,reduceIte,a7]
  refine qi (v := .ref (qd x93) 0) (uw hx94 rfl) ?_
  simp only [qm,B0,reduceIte,a7]
  refine qi (v := .agg [lst cI x93.Homes,lst cI x93.InStep,.int .i64 x93.Leader,.int .i64 x93.Epoch,.int .i64 x93.Stamp]) rfl ?_
  simp only [z5,B0,reduceIte,a7]
  refine zt hS87 (fun b96 h97 hS98=>?_)
  simp only [zk,B0,reduceIte,a7]
  refine zb (us:=[lst cI x93.Homes,lst cI x93.InStep,.int .i64 x93.Leader,.int .i64 x93.Epoch,.int .i64 x93.Stamp]) rfl (cs':=[lst cI x93.Homes,
    lst cI x93.InStep,.int .i64 x93.Leader,.int .i64 x93.Epoch,.int .i64 x93.Stamp]) hS98 hW rfl rfl (nle rfl) rfl (fun h100 hS101=>?_)
  simp only [qa,B0,reduceIte,a7]
  refine zq hS101 hW (by simp only [B0,reduceIte,a7]) (fun h102 hS103=>?_)
  simp only [zp,q17,qh,qf,f89,qp,qb,a8,a9,b4,qs,qm,B0,reduceIte,a7]
  refine qi (v:=lst qd v_1.Parts) rfl ?_
  obtain ⟨x104,hx105,hF106⟩:=qk hF95
  simp only [qg,jf,B0,reduceIte,a7]
  refine qi (v := .ref (qd x104) 0) (uw hx105 rfl) ?_
  simp only [qm,B0,reduceIte,a7]
  refine qi (v := .agg [lst cI x104.Homes,lst cI x104.InStep,.int .i64 x104.Leader,.int .i64 x104.Epoch,.int .i64 x104.Stamp]) rfl ?_
  simp only [z5,B0,reduceIte,a7]
  refine zt hS103 (fun b107 h108 hS109=>?_)
  simp only [zk,B0,reduceIte,a7]
  refine zb (us:=[lst cI x104.Homes,lst cI x104.InStep,.int .i64 x104.Leader,.int .i64 x104.Epoch,.int .i64 x104.Stamp]) rfl (cs':=[lst cI x104.Homes,
    lst cI x104.InStep,.int .i64 x104.Leader,.int .i64 x104.Epoch,.int .i64 x104.Stamp]) hS109 hW rfl rfl (nle rfl) rfl (fun h111 hS112=>?_)
  simp only [qa,B0,reduceIte,a7]
  refine zq hS112 hW (by simp only [B0,reduceIte,a7]) (fun h113 hS114=>?_)
  simp only [zp,qzr,qh,qf,qp,qb,a8,a9,b4,qs,qm,B0,reduceIte,a7]
  refine qi (v := .int .i64 x93.Leader) rfl ?_
  simp only [qp,qb,a8,a9,b4,qs,qm,B0,reduceIte,a7]
  refine qi (v := .int .i64 x104.Leader) rfl ?_
  simp only [qv,qb,wm,qg,B0,reduceIte,a7]
  refine zr 6 (fun fr' h'=>Sep h' (geL h.length) ([])∧fr' 77 = .bool ((decide (x93.Leader≠x104.Leader))||(decide
    (x93.Epoch≠x104.Epoch)))∧fr' 2 = .ref [lst qe v_0.Brokers,lst qd v_0.Parts,.int .i64 v_0.Next] 0∧fr' 3 = .ref [lst qe v_1.Brokers,
    lst qd v_1.Parts,.int .i64 v_1.Next] 0∧fr' 7 = .ref [lst cI x93.Homes,lst cI x93.InStep,.int .i64 x93.Leader,.int .i64 x93.Epoch,
    .int .i64 x93.Stamp] 0∧fr' 8 = .ref [lst cI x104.Homes,lst cI x104.InStep,.int .i64 x104.Leader,.int .i64 x104.Epoch,
    .int .i64 x104.Stamp] 0∧fr' 52 = .int .i64 (b6 v_0.Parts:Int)∧fr' 53 = .int .i64 (i71:Int)) (fun Q115 hN116=>?_) ?_
  ·simp only [d7,e9]
   simp only [qc (g:=71),B0,reduceIte,a7]
   refine qy (t:=(decide (x93.Leader≠x104.Leader))) (fun hg117=>?_) (fun hg117=>?_)
   ·simp only [hg117,qc (g:=71),zv,qr,qb,zh,qa,qn,B0,reduceIte,a7]
    exact hN116 _ _ ⟨hS114,by rw [orT hg117]; simp only [B0,reduceIte,a7],f88,f89,rfl,rfl,f92,f91⟩
   ·simp only [hg117,qc (g:=71),qq,qp,qb,a8,a9,b4,qs,qm,B0,reduceIte,a7]
    refine qi (v := .int .i64 x93.Epoch) rfl ?_
    simp only [hg117,qc (g:=71),qq,qp,qb,a8,a9,b4,qs,qm,B0,reduceIte,a7]
    refine qi (v := .int .i64 x104.Epoch) rfl ?_
    simp only [hg117,qc (g:=71),qq,qv,qb,wm,qr,zi,qa,qn,B0,reduceIte,a7]
    exact hN116 _ _ ⟨hS114,by rw [orF hg117]; simp only [B0,reduceIte,a7],f88,f89,rfl,rfl,f92,f91⟩
  rintro fr118 h126 ⟨hS127,f119,f120,f121,f122,f123,f124,f125⟩
  simp only [b7,e8]
  simp only [f119,qg,B0,reduceIte,a7]
  refine zr 6 (fun fr' h'=>Sep h' (geL h.length) ([])∧fr' 84 = .bool (((decide (x93.Leader≠x104.Leader))||(decide (x93.Epoch≠x104.Epoch)))||(decide
    (x93.Stamp≠x104.Stamp)))∧fr' 2 = .ref [lst qe v_0.Brokers,lst qd v_0.Parts,.int .i64 v_0.Next] 0∧fr' 3 = .ref [lst qe v_1.Brokers,
    lst qd v_1.Parts,.int .i64 v_1.Next] 0∧fr' 7 = .ref [lst cI x93.Homes,lst cI x93.InStep,.int .i64 x93.Leader,.int .i64 x93.Epoch,
    .int .i64 x93.Stamp] 0∧fr' 8 = .ref [lst cI x104.Homes,lst cI x104.InStep,.int .i64 x104.Leader,.int .i64 x104.Epoch,
    .int .i64 x104.Stamp] 0∧fr' 52 = .int .i64 (b6 v_0.Parts:Int)∧fr' 53 = .int .i64 (i71:Int)) (fun Q128 hN129=>?_) ?_
  ·simp only [d7,e9]
   simp only [qc (g:=78),B0,reduceIte,a7]
   refine qy (t:=((decide (x93.Leader≠x104.Leader))||(decide (x93.Epoch≠x104.Epoch)))) (fun hg130=>?_) (fun hg130=>?_)
   ·simp only [hg130,qc (g:=78),zv,qr,qb,zh,qa,qn,B0,reduceIte,a7]
    exact hN129 _ _ ⟨hS127,by rw [orT hg130]; simp only [B0,reduceIte,a7],f120,f121,f122,f123,f124,f125⟩
   ·simp only [hg130,qc (g:=78),qq,f122,qp,qb,a8,a9,b4,qs,qm,B0,reduceIte,a7]
    refine qi (v := .int .i64 x93.Stamp) rfl ?_
    simp only [hg130,qc (g:=78),qq,f123,qp,qb,a8,a9,b4,qs,qm,B0,reduceIte,a7]
    refine qi (v := .int .i64 x104.Stamp) rfl ?_
    simp only [hg130,qc (g:=78),qq,qv,qb,wm,qr,zi,qa,qn,B0,reduceIte,a7]
    exact hN129 _ _ ⟨hS127,by rw [orF hg130]; simp only [B0,reduceIte,a7],f120,f121,f122,f123,f124,f125⟩
  rintro fr131 h139 ⟨hS140,f132,f133,f134,f135,f136,f137,f138⟩
  simp only [b7,e8]
  simp only [f132,qg,B0,reduceIte,a7]
  obtain ⟨v144,hx145,hF146⟩:=qk hF106
  refine zr 7 (fun fr' h'=>Sep h' (geL h.length) ([])∧fr' 92 = .bool v144∧fr' 2 = .ref [lst qe v_0.Brokers,lst qd v_0.Parts,
    .int .i64 v_0.Next] 0∧fr' 3 = .ref [lst qe v_1.Brokers,lst qd v_1.Parts,.int .i64 v_1.Next] 0∧fr' 7 = .ref [lst cI x93.Homes,
    lst cI x93.InStep,.int .i64 x93.Leader,.int .i64 x93.Epoch,.int .i64 x93.Stamp] 0∧fr' 8 = .ref [lst cI x104.Homes,lst cI x104.InStep,.int .i64 x104.Leader,
    .int .i64 x104.Epoch,.int .i64 x104.Stamp] 0∧fr' 52 = .int .i64 (b6 v_0.Parts:Int)∧fr' 53 = .int .i64 (i71:Int)) (fun Q141 hN142=>?_) ?_
  ·simp only [d7,e9]
   simp only [qc (g:=85),B0,reduceIte,a7]
   refine qy (t:=(((decide (x93.Leader≠x104.Leader))||(decide (x93.Epoch≠x104.Epoch)))||(decide (x93.Stamp≠x104.Stamp)))) (fun hg143=>?_)
     (fun hg143=>?_)
   ·rw [iteT hg143] at hx145
    simp only [hg143,qc (g:=85),zv,qr,qb,zh,qa,qn,B0,reduceIte,a7]
    have e147:=qj hx145
    exact hN142 _ _ ⟨hS140,by rw [←e147]; simp only [B0,reduceIte,a7],f133,f134,f135,f136,f137,f138⟩
   ·rw [iteF hg143] at hx145
    simp only [hg143,qc (g:=85),qq,f135,qp,qb,a8,a9,b4,qs,qm,B0,reduceIte,a7]
    refine qi (v:=lst cI x93.Homes) rfl ?_
    simp only [hg143,qc (g:=85),qq,f136,qp,qb,a8,a9,b4,qs,qm,B0,reduceIte,a7]
    refine qi (v:=lst cI x104.Homes) rfl ?_
    obtain ⟨v148,hx149,hF150⟩:=qk hx145
    simp only [hg143,qc (g:=85),qq,za,B0,reduceIte,a7]
    refine ja rfl (ql zn (ql zn zd)) (wx (fun b hb=>decide_eq_true hb) x93.Homes x104.Homes v148 hx149) ?_
    simp only [hg143,qc (g:=85),qq,je,qb,jt,qr,zi,qa,qn,B0,reduceIte,a7]
    have e151:=qj hF150
    exact hN142 _ _ ⟨hS140,by rw [←e151]; simp only [B0,reduceIte,a7],f133,f134,f135,f136,f137,f138⟩
  rintro fr152 h160 ⟨hS161,f153,f154,f155,f156,f157,f158,f159⟩
  simp only [b7,e8]
  simp only [f153,qg,B0,reduceIte,a7]
  obtain ⟨v165,hx166,hF167⟩:=qk hF146
  refine zr 7 (fun fr' h'=>Sep h' (geL h.length) ([])∧fr' 100 = .bool v165∧fr' 2 = .ref [lst qe v_0.Brokers,lst qd v_0.Parts,
    .int .i64 v_0.Next] 0∧fr' 3 = .ref [lst qe v_1.Brokers,lst qd v_1.Parts,
    .int .i64 v_1.Next] 0∧fr' 52 = .int .i64 (b6 v_0.Parts:Int)∧fr' 53 = .int .i64 (i71:Int)) (fun Q162 hN163=>?_) ?_
  ·simp only [d7,e9]
   simp only [qc (g:=93),B0,reduceIte,a7]
   refine qy (t:=v144) (fun hg164=>?_) (fun hg164=>?_)
   ·rw [iteT hg164] at hx166
    simp only [hg164,qc (g:=93),zv,qr,qb,zh,qa,qn,B0,reduceIte,a7]
    have e168:=qj hx166
    exact hN163 _ _ ⟨hS161,by rw [←e168]; simp only [B0,reduceIte,a7],f154,f155,f158,f159⟩
   ·rw [iteF hg164] at hx166
    simp only [hg164,qc (g:=93),qq,f156,qp,qb,a8,a9,b4,qs,qm,B0,reduceIte,a7]
    refine qi (v:=lst cI x93.InStep) rfl ?_
    simp only [hg164,qc (g:=93),qq,f157,qp,qb,a8,a9,b4,qs,qm,B0,reduceIte,a7]
    refine qi (v:=lst cI x104.InStep) rfl ?_
    obtain ⟨v169,hx170,hF171⟩:=qk hx166
    simp only [hg164,qc (g:=93),qq,za,B0,reduceIte,a7]
    refine ja rfl (ql zn (ql zn zd)) (wx (fun b hb=>decide_eq_true hb) x93.InStep x104.InStep v169 hx170) ?_
    simp only [hg164,qc (g:=93),qq,je,qb,jt,qr,zi,qa,qn,B0,reduceIte,a7]
    have e172:=qj hF171
    exact hN163 _ _ ⟨hS161,by rw [←e172]; simp only [B0,reduceIte,a7],f154,f155,f158,f159⟩
  rintro fr173 h179 ⟨hS180,f174,f175,f176,f177,f178⟩
  simp only [b7,e8]
  simp only [qa,f174,qz,B0,reduceIte,a7]
  refine qx (t:=v165) (fun hc181=>?_) (fun hc181=>?_)
  ·rw [iteT hc181] at hF167
   simp only [qh,qf,qg,qa,q8,B0,reduceIte,a7]
   have e182:=qj hF167
   subst e182
   have ho183:=hr78 _ rfl
   have hk184:=hk76
   rw [ho183] at hk184
   dsimp only [jnO] at hk184
   apply hR82
   have he:=qj hk184
   subst he
   simp only [zg,B0,reduceIte,a7]
   exact rfl
  rw [iteF hc181] at hF167
  simp only [zf,qn,B0,reduceIte,a7]
  have e185:=qj hF167
  exact hN80 _ _ _ e185.symm ⟨f175,f176,hS180⟩ (f178) (f177)
 rintro _ fr187 h188 rfl ⟨f190,f191,hS189⟩
 dsimp only [jnO] at hk76
 unfold qek at hk76
 simp only [qh,qf,qg,qa,q8,B0,reduceIte,a7]
 have he:=qj hk76
 subst he
 simp only [zg,B0,reduceIte,a7]
 exact rfl
theorem xk {W:Nat→Bool}{h:Heap} (hW:∀ b,
  (geL h.length) b→W b=true) (n_0:Int) (low_1:Int) (high_2:Int) (r:Bool) (hF:some (z0 n_0 low_1 high_2)=some r) : Ret E W 46 [.int .i64 n_0,
  .int .i64 low_1,.int .i64 high_2] h (fun v h'=>cut h.length h' E.sz false 9 v=some (.bool r)):=by
 refine Ret.of (fn:=x46) rfl (Run.of ?_)
 unfold z0 at hF
 have zf0:zj [.int .i64 n_0,.int .i64 low_1,.int .i64 high_2] 0 = .int .i64 n_0:=rfl
 have zf1:zj [.int .i64 n_0,.int .i64 low_1,.int .i64 high_2] 1 = .int .i64 low_1:=rfl
 have zf2:zj [.int .i64 n_0,.int .i64 low_1,.int .i64 high_2] 2 = .int .i64 high_2:=rfl
 generalize zj [.int .i64 n_0,.int .i64 low_1,.int .i64 high_2]=fr0 at zf0 zf1 zf2 ⊢
 have hS:Sep h (geL h.length) []:=a0t h
 simp only [x46,qh,qf,qg,qa,q6s,zf0,zf1,qv,qb,qcg,B0,reduceIte,a7]
 refine zr 4 (fun fr' h'=>Sep h' (geL h.length) ([])∧fr' 14 = .bool ((decide (low_1≤n_0))&&(decide (n_0≤high_2)))) (fun Q1 hN2=>?_) ?_
 ·simp only [d7,e9]
  simp only [qc (g:=10),B0,reduceIte,a7]
  refine qy (t:=(decide (low_1≤n_0))) (fun hg3=>?_) (fun hg3=>?_)
  ·simp only [hg3,qc (g:=10),qw,zf0,qg,zf2,qv,qb,qp4,qr,zh,qa,qn,B0,reduceIte,a7]
   exact hN2 _ _ ⟨hS,by rw [k8 hg3]; simp only [B0,reduceIte,a7]⟩
  ·simp only [hg3,qc (g:=10),zy,qr,qb,zi,qa,qn,B0,reduceIte,a7]
   exact hN2 _ _ ⟨hS,by rw [k9 hg3]; simp only [B0,reduceIte,a7]⟩
 rintro fr4 h6 ⟨hS7,f5⟩
 simp only [b7,e8]
 simp only [f5,qg,qa,q8,B0,reduceIte,a7]
 have he:=qj hF
 subst he
 simp only [zg,B0,reduceIte,a7]
 exact rfl
theorem qdt {W:Nat→Bool}{h:Heap} (hW:∀ b,
  (geL h.length) b→W b=true) (list_0:List Int) (many_1:Int) (r:Bool) (hF:xz list_0 many_1=some r) : Ret E W 75 [lst cI list_0,
  .int .i64 many_1] h (fun v h'=>cut h.length h' E.sz false 9 v=some (.bool r)):=by
 refine Ret.of (fn:=x75) rfl (Run.of ?_)
 unfold xz at hF
 have zf0:zj [lst cI list_0,.int .i64 many_1] 0=lst cI list_0:=rfl
 have zf1:zj [lst cI list_0,.int .i64 many_1] 1 = .int .i64 many_1:=rfl
 generalize zj [lst cI list_0,.int .i64 many_1]=fr0 at zf0 zf1 ⊢
 have hS:Sep h (geL h.length) []:=a0t h
 simp only [x75,qh,qf,qg,qa,qzo,zf0,zx,qb,z1,B0,reduceIte,a7]
 obtain ⟨oc3,hX5,hk6⟩:=jo hF
 simp only [q5l]
 refine ku (σ:=Unit) list_0 (fun i1 x2 _=>qbw list_0 many_1 i1 x2 )
   (fun s fr' h'=>fr' 0=lst cI list_0∧fr' 1 = .int .i64 many_1∧fr' 7=lst cI list_0∧Sep h' (geL h.length) ([])) hX5 ⟨zf0,zf1,rfl,hS⟩ (by simp only [B0,reduceIte,
   a7]) (by simp only [B0,reduceIte,a7]) (fun _ _ _ h=>h) rfl rfl (fun _ _ _ _ h=>h) (fun _ _ _ _ h=>h) (fun _ _ _ _ h=>h) (by decide) ?_ ?_
 ·rintro i1 x2 _ fr15 h16 hx21 ⟨f18,f19,f20,hS17⟩ f22 f23 oc4 hF7 hr8 Q9 hN10 hB14 hK11 hR12 hE13
  unfold qbw at hF7
  simp only [qzn,qh,qf,f22,qg,f20,jf,B0,reduceIte,a7]
  refine qi (v := .ref (cI x2) 0) (kt hx21 rfl) ?_
  simp only [qm,B0,reduceIte,a7]
  refine qi (v := .int .i64 x2) rfl ?_
  simp only [qg,qa,q0f,qh,qf,f19,qv,qb,qe1,za,B0,reduceIte,a7]
  refine ja rfl (ql qu (ql qu (ql qu zd))) (xk (fun b hb=>decide_eq_true hb) x2 0 (d8 .i64 (many_1 - 1)) _ rfl) ?_
  simp only [je,qb,jt,qg,B0,reduceIte,a7]
  obtain ⟨v27,hx28,hF29⟩:=qk hF7
  refine zr 12 (fun fr' h'=>Sep h' (geL h.length) ([])∧fr' 31 = .bool v27∧fr' 0=lst cI list_0∧fr' 1 = .int .i64 many_1∧fr' 7=lst cI list_0∧fr' 8 = .int .i64
    (b6 list_0:Int)∧fr' 9 = .int .i64 (i1:Int)) (fun Q24 hN25=>?_) ?_
  ·simp only [d7,e9]
   simp only [qc (g:=19),B0,reduceIte,a7]
   refine qy (t:=(!(z0 x2 0 (d8 .i64 (many_1 - 1))))) (fun hg26=>?_) (fun hg26=>?_)
   ·rw [iteT hg26] at hx28
    simp only [hg26,qc (g:=19),zv,qc (g:=22),u4,qr,qb,zh,qa,qn,B0,reduceIte,a7]
    have e30:=qj hx28
    exact hN25 _ _ ⟨hS17,by rw [←e30]; simp only [B0,reduceIte,a7],f18,f19,f20,f23,f22⟩
   ·rw [iteF hg26] at hx28
    simp only [hg26,qc (g:=19),qq,qg,qv,qb,qc7,B0,reduceIte,a7]
    obtain ⟨v34,hx35,hF36⟩:=qk hx28
    refine zr 8 (fun fr' h'=>Sep h' (geL h.length)
      ([])∧fr' 30 = .bool v34∧fr' 0=lst cI list_0∧fr' 1 = .int .i64 many_1∧fr' 7=lst cI list_0∧fr' 8 = .int .i64
      (b6 list_0:Int)∧fr' 9 = .int .i64 (i1:Int)∧fr' 19 = .bool (!(z0 x2 0 (d8 .i64 (many_1 - 1))))) (fun Q31 hN32=>?_) ?_
    ·simp only [d7,e9]
     simp only [qc (g:=22),B0,reduceIte,a7]
     refine qy (t:=(decide ((0:Int)<(i1:Int)))) (fun hg33=>?_) (fun hg33=>?_)
     ·rw [iteT hg33] at hx35
      obtain ⟨x37,hx38,hF39⟩:=qk hx35
      simp only [hg33,qc (g:=22),qw,f18,qg,qv,qb,qe1,jf,B0,reduceIte,a7]
      refine qi (v := .ref (cI x37) 0) (uw hx38 rfl) ?_
      simp only [hg33,qc (g:=22),qw,qm,B0,reduceIte,a7]
      refine qi (v := .int .i64 x37) rfl ?_
      simp only [hg33,qc (g:=22),qw,qg,qv,qb,qcg,hg26,qc (g:=19),qq,qr,zh,qa,qn,
        B0,reduceIte,a7]
      have e40:=qj hF39
      exact hN32 _ _ ⟨hS17,by rw [←e40]; simp only [B0,reduceIte,a7],f18,f19,f20,f23,f22,by simp only [hg26,B0,reduceIte,a7]⟩
     ·rw [iteF hg33] at hx35
      simp only [hg33,qc (g:=22),zy,hg26,qc (g:=19),qq,qr,qb,zi,qa,qn,B0,reduceIte,
        a7]
      have e41:=qj hx35
      exact hN32 _ _ ⟨hS17,by rw [←e41]; simp only [B0,reduceIte,a7],f18,f19,f20,f23,f22,by simp only [hg26,B0,reduceIte,a7]⟩
    rintro fr42 h50 ⟨hS51,f43,f44,f45,f46,f47,f48,f49⟩
    simp only [b7,e8]
    simp only [f49,hg26,qr,qb,zi,f43,qa,qn,B0,reduceIte,a7]
    have e52:=qj hF36
    exact hN25 _ _ ⟨hS51,by rw [←e52]; simp only [B0,reduceIte,a7],f44,f45,f46,f47,f48⟩
  rintro fr53 h60 ⟨hS61,f54,f55,f56,f57,f58,f59⟩
  simp only [b7,e8]
  simp only [qa,f54,qz,B0,reduceIte,a7]
  refine qx (t:=v27) (fun hc62=>?_) (fun hc62=>?_)
  ·rw [iteT hc62] at hF29
   simp only [qh,qf,qg,qa,q8,B0,reduceIte,a7]
   have e63:=qj hF29
   subst e63
   have ho64:=hr8 _ rfl
   have hk65:=hk6
   rw [ho64] at hk65
   dsimp only [jnO] at hk65
   apply hR12
   have he:=qj hk65
   subst he
   simp only [zg,B0,reduceIte,a7]
   exact rfl
  rw [iteF hc62] at hF29
  simp only [zf,qn,B0,reduceIte,a7]
  have e66:=qj hF29
  exact hN10 _ _ _ e66.symm ⟨f55,f56,f57,hS61⟩ (f59) (f58)
 rintro _ fr68 h69 rfl ⟨f71,f72,f73,hS70⟩
 dsimp only [jnO] at hk6
 unfold qfw at hk6
 simp only [qh,qf,qg,qa,q8,B0,reduceIte,a7]
 have he:=qj hk6
 subst he
 simp only [zg,B0,reduceIte,a7]
 exact rfl
theorem qde {W:Nat→Bool}{h:Heap} (hW:∀ b,
  (geL h.length) b→W b=true) (c_0:Control) (list_1:List Int) (r:Int)
  (hF:w7 c_0 list_1=some r) : Ret E W 78 [.agg [lst qe c_0.Brokers,lst qd c_0.Parts,.int .i64 c_0.Next],
  lst cI list_1] h (fun v h'=>cut h.length h' E.sz false 9 v=some (.int .i64 r)):=by
 refine Ret.of (fn:=x78) rfl (Run.of ?_)
 unfold w7 at hF
 have zf0:zj [.agg [lst qe c_0.Brokers,lst qd c_0.Parts,.int .i64 c_0.Next],lst cI list_1] 0 = .agg [lst qe c_0.Brokers,
   lst qd c_0.Parts,.int .i64 c_0.Next]:=rfl
 have zf1:zj [.agg [lst qe c_0.Brokers,lst qd c_0.Parts,.int .i64 c_0.Next],lst cI list_1] 1=lst cI list_1:=rfl
 generalize zj [.agg [lst qe c_0.Brokers,lst qd c_0.Parts,.int .i64 c_0.Next],lst cI list_1]=fr0 at zf0 zf1 ⊢
 have hS:Sep h (geL h.length) []:=a0t h
 simp only [x78,qh,qf,jp,zf0,B0,reduceIte,a7]
 refine jc (cs:=[lst qe c_0.Brokers,lst qd c_0.Parts,.int .i64 c_0.Next]) hS rfl rfl rfl (fun b1 h2 hS3=>?_)
 simp only [qg,qa,B0,reduceIte,a7]
 refine zq hS3 hW (by simp only [B0,reduceIte,a7]) (fun h5 hS6=>?_)
 simp only [zp,q4v,qh,qf,zf1,qg,zx,qb,z1,qa,B0,reduceIte,a7]
 obtain ⟨oc9,hX11,hk12⟩:=jo hF
 simp only [q4g]
 refine ku (σ:=Unit) list_1 (fun i7 x8 _=>qax c_0 i7 x8 ) (fun s fr' h'=>fr' 2 = .ref [lst qe c_0.Brokers,
   lst qd c_0.Parts,.int .i64 c_0.Next] 0∧fr' 7=lst cI list_1∧Sep h' (geL h.length) ([])) hX11 ⟨rfl,rfl,hS6⟩ (by simp only [B0,reduceIte,
   a7]) (by simp only [B0,reduceIte,a7]) (fun _ _ _ h=>h) rfl rfl (fun _ _ _ _ h=>h) (fun _ _ _ _ h=>h) (fun _ _ _ _ h=>h) (by decide) ?_ ?_
 ·rintro i7 x8 _ fr21 h22 hx26 ⟨f24,f25,hS23⟩ f27 f28 oc10 hF13 hr14 Q15 hN16 hB20 hK17 hR18 hE19
  unfold qax at hF13
  simp only [q67,qh,qf,f25,f27,jf,B0,reduceIte,a7]
  refine qi (v := .ref (cI x8) 0) (kt hx26 rfl) ?_
  simp only [qm,B0,reduceIte,a7]
  refine qi (v := .int .i64 x8) rfl ?_
  simp only [qg,qa,q0q,qh,qf,f24,qp,qb,a8,a9,b4,qs,qm,B0,reduceIte,a7]
  refine qi (v:=lst qe c_0.Brokers) rfl ?_
  obtain ⟨x29,hx30,hF31⟩:=qk hF13
  simp only [qg,jf,B0,reduceIte,a7]
  refine qi (v := .ref (qe x29) 0) (uw hx30 rfl) ?_
  simp only [qp,qb,a8,a9,b4,qs,qm,B0,reduceIte,a7]
  refine qi (v := .bool x29.Fenced) rfl ?_
  simp only [je,qb,jt,qa,q2b,qz,B0,reduceIte,a7]
  refine qx (t:=(!x29.Fenced)) (fun hc32=>?_) (fun hc32=>?_)
  ·rw [iteT hc32] at hF31
   simp only [qh,qf,qg,qa,q8,B0,reduceIte,a7]
   have e33:=qj hF31
   subst e33
   have ho34:=hr14 _ rfl
   have hk35:=hk12
   rw [ho34] at hk35
   dsimp only [jnO] at hk35
   apply hR18
   have he:=qj hk35
   subst he
   simp only [zg,B0,reduceIte,a7]
   exact rfl
  rw [iteF hc32] at hF31
  simp only [zf,qn,B0,reduceIte,a7]
  have e36:=qj hF31
  exact hN16 _ _ _ e36.symm ⟨f24,f25,hS23⟩ (f27) (f28)
 rintro _ fr38 h39 rfl ⟨f41,f42,hS40⟩
 dsimp only [jnO] at hk12
 unfold qc3 at hk12
 simp only [qh,qf,qg,qa,q8,B0,reduceIte,a7]
 have he:=qj hk12
 subst he
 simp only [zg,B0,reduceIte,a7]
 exact rfl
theorem qje {W:Nat→Bool}{h:Heap} (hW:∀ b,
  (geL h.length) b→W b=true) (s_0:List Int) (v_1:Int) (r:Int) (hF:qcq s_0 v_1=some r) : Ret E W 96 [lst cI s_0,
  .int .i64 v_1] h (fun v h'=>cut h.length h' E.sz false 9 v=some (.int .i64 r)):=by
 refine Ret.of (fn:=x96) rfl (Run.of ?_)
 unfold qcq at hF
 have zf0:zj [lst cI s_0,.int .i64 v_1] 0=lst cI s_0:=rfl
 have zf1:zj [lst cI s_0,.int .i64 v_1] 1 = .int .i64 v_1:=rfl
 generalize zj [lst cI s_0,.int .i64 v_1]=fr0 at zf0 zf1 ⊢
 have hS:Sep h (geL h.length) []:=a0t h
 simp only [x96,qh,qf,qg,qa,q10,zf0,zx,qb,z1,B0,reduceIte,a7]
 obtain ⟨oc3,hX5,hk6⟩:=jo hF
 simp only [q0t]
 refine ku (σ:=Unit) s_0 (fun i1 x2 _=>uq v_1 i1 x2 ) (fun s fr' h'=>fr' 0=lst cI s_0∧fr' 1 = .int .i64 v_1∧Sep h' (geL h.length)
   ([])) hX5 ⟨zf0,zf1,hS⟩ (by simp only [B0,reduceIte,a7]) (by simp only [B0,reduceIte,
   a7]) (fun _ _ _ h=>h) rfl rfl (fun _ _ _ _ h=>h) (fun _ _ _ _ h=>h) (fun _ _ _ _ h=>h) (by decide) ?_ ?_
 ·rintro i1 x2 _ fr15 h16 hx20 ⟨f18,f19,hS17⟩ f21 f22 oc4 hF7 hr8 Q9 hN10 hB14 hK11 hR12 hE13
  unfold uq at hF7
  simp only [qzu,qh,qf,f21,qg,qa,q7f,f19,f18,jf,B0,reduceIte,a7]
  refine qi (v := .ref (cI x2) 0) (kt hx20 rfl) ?_
  simp only [qm,B0,reduceIte,a7]
  refine qi (v := .int .i64 x2) rfl ?_
  simp only [qv,qb,z8,qa,q1b,qz,B0,reduceIte,a7]
  refine qx (t:=(decide (v_1=x2))) (fun hc23=>?_) (fun hc23=>?_)
  ·rw [iteT hc23] at hF7
   simp only [qh,qf,qg,qa,q8,B0,reduceIte,a7]
   have e24:=qj hF7
   subst e24
   have ho25:=hr8 _ rfl
   have hk26:=hk6
   rw [ho25] at hk26
   dsimp only [jnO] at hk26
   apply hR12
   have he:=qj hk26
   subst he
   simp only [zg,B0,reduceIte,a7]
   exact rfl
  rw [iteF hc23] at hF7
  simp only [zf,qn,B0,reduceIte,a7]
  have e27:=qj hF7
  exact hN10 _ _ _ e27.symm ⟨f18,f19,hS17⟩ (f21) (f22)
 rintro _ fr29 h30 rfl ⟨f32,f33,hS31⟩
 dsimp only [jnO] at hk6
 unfold qe8 at hk6
 simp only [qh,qf,qg,qa,q8,B0,reduceIte,a7]
 have he:=qj hk6
 subst he
 simp only [zg,B0,reduceIte,a7]
 exact rfl
theorem xh {W:Nat→Bool}{h:Heap} (hW:∀ b,
  (geL h.length) b→W b=true) (s_0:List Int) (v_1:Int) (r:Bool) (hF:j5 s_0 v_1=some r) : Ret E W 80 [lst cI s_0,
  .int .i64 v_1] h (fun v h'=>cut h.length h' E.sz false 9 v=some (.bool r)):=by
 refine Ret.of (fn:=x80) rfl (Run.of ?_)
 unfold j5 at hF
 have zf0:zj [lst cI s_0,.int .i64 v_1] 0=lst cI s_0:=rfl
 have zf1:zj [lst cI s_0,.int .i64 v_1] 1 = .int .i64 v_1:=rfl
 generalize zj [lst cI s_0,.int .i64 v_1]=fr0 at zf0 zf1 ⊢
 have hS:Sep h (geL h.length) []:=a0t h
 obtain ⟨v1,hx2,hF3⟩:=qk hF
 simp only [x80,qh,qf,qg,qa,q2d,zf0,zf1,za,B0,reduceIte,a7]
 refine ja rfl (ql zn (ql qu zd)) (qje (fun b hb=>decide_eq_true hb) s_0 v_1 v1 hx2) ?_
 simp only [qv,qb,qcg,qg,qa,q8,B0,reduceIte,a7]
 have he:=qj hF3
 subst he
 simp only [zg,B0,reduceIte,a7]
 exact rfl
theorem qll {W:Nat→Bool}{h:Heap} (hW:∀ b,
  (geL h.length) b→W b=true) (k_0:Int) (cap_0:List Int) (r:Bool) (hF:qe4 k_0 cap_0=some r) : Ret E W 95 [.int .i64 k_0,
  .ref ((cL cI) cap_0) 0] h (fun v h'=>cut h.length h' E.sz false 9 v=some (.bool r)):=by
 refine Ret.of (fn:=x95) rfl (Run.of ?_)
 unfold qe4 at hF
 have zf0:zj [.int .i64 k_0,.ref ((cL cI) cap_0) 0] 0 = .int .i64 k_0:=rfl
 have zf1:zj [.int .i64 k_0,.ref ((cL cI) cap_0) 0] 1 = .ref ((cL cI) cap_0) 0:=rfl
 generalize zj [.int .i64 k_0,.ref ((cL cI) cap_0) 0]=fr0 at zf0 zf1 ⊢
 have hS:Sep h (geL h.length) []:=a0t h
 simp only [x95,qh,qf,qg,qa,q59,zf1,qm,B0,reduceIte,a7]
 refine qi (v:=lst cI cap_0) rfl ?_
 obtain ⟨v1,hx2,hF3⟩:=qk hF
 simp only [zf0,qg,za,B0,reduceIte,a7]
 refine ja rfl (ql zn (ql qu zd)) (xh (fun b hb=>decide_eq_true hb) cap_0 k_0 v1 hx2) ?_
 simp only [je,qb,jt,qg,qa,q8,B0,reduceIte,a7]
 have he:=qj hF3
 subst he
 simp only [zg,B0,reduceIte,a7]
 exact rfl
theorem qjb {W:Nat→Bool}{h:Heap} (hW:∀ b,
  (geL h.length) b→W b=true) (list_0:List Int) (of_1:List Int) (r:Bool) (hF:qbq list_0 of_1=some r) : Ret E W 79 [lst cI list_0,
  lst cI of_1] h (fun v h'=>cut h.length h' E.sz false 9 v=some (.bool r)):=by
 refine Ret.of (fn:=x79) rfl (Run.of ?_)
 unfold qbq at hF
 have zf0:zj [lst cI list_0,lst cI of_1] 0=lst cI list_0:=rfl
 have zf1:zj [lst cI list_0,lst cI of_1] 1=lst cI of_1:=rfl
 generalize zj [lst cI list_0,lst cI of_1]=fr0 at zf0 zf1 ⊢
 have hS:Sep h (geL h.length) []:=a0t h
 simp only [x79,qh,qf,jp,zf1,B0,reduceIte,a7]
 refine jc (cs:=[lst cI of_1]) hS rfl rfl rfl (fun b1 h2 hS3=>?_)
 simp only [qg,qa,B0,reduceIte,a7]
 refine zq hS3 hW (by simp only [B0,reduceIte,a7]) (fun h5 hS6=>?_)
 simp only [zp,q6q,qh,qf,zf0,qg,qov,za,B0,reduceIte,a7]
 refine kp rfl (Ret.of (fn:=x94) rfl (Run.of ?_)) (fun _ _ h=>h)
 have zf7:zj ([lst cI list_0,.fn 95 [.ref [lst cI of_1] 0]]++[]) 0=lst cI list_0:=rfl
 have zf8:zj ([lst cI list_0,.fn 95 [.ref [lst cI of_1] 0]]++[]) 1 = .fn 95 [.ref [lst cI of_1] 0]:=rfl
 generalize zj ([lst cI list_0,.fn 95 [.ref [lst cI of_1] 0]]++[])=fr9 at zf7 zf8 ⊢
 simp only [x94,qh,qf,qg,qa,qo8,zf7,zf8,za,B0,reduceIte,a7]
 obtain ⟨v10,hx11,hF12⟩:=qk hF
 refine kp rfl (R:=(fun u h'=>u = .int .i64 v10∧Sep h' (geL h.length) ([]))) (Ret.of (fn:=x98) rfl (Run.of ?_)) ?_
 ·have zf13:zj ([lst cI list_0,.fn 95 [.ref [lst cI of_1] 0]]++[]) 0=lst cI list_0:=rfl
  have zf14:zj ([lst cI list_0,.fn 95 [.ref [lst cI of_1] 0]]++[]) 1 = .fn 95 [.ref [lst cI of_1] 0]:=rfl
  generalize zj ([lst cI list_0,.fn 95 [.ref [lst cI of_1] 0]]++[])=fr15 at zf13 zf14 ⊢
  simp only [x98,qh,qf,qg,qa,qo9,zf13,zx,qb,z1,B0,reduceIte,a7]
  obtain ⟨oc18,hX20,hk21⟩:=jo hx11
  simp only [qpd]
  refine ku (σ:=Unit) list_0 (fun i16 x17 _=>qcs of_1 i16 x17 ) (fun s fr' h'=>fr' 0=lst cI list_0∧fr' 1 = .fn 95 [.ref [lst cI of_1] 0]∧Sep h'
    (geL h.length) ([])) hX20 ⟨zf13,zf14,hS6⟩ (by simp only [B0,reduceIte,a7]) (by simp only [B0,reduceIte,
    a7]) (fun _ _ _ h=>h) rfl rfl (fun _ _ _ _ h=>h) (fun _ _ _ _ h=>h) (fun _ _ _ _ h=>h) (by decide) ?_ ?_
  ·rintro i16 x17 _ fr30 h31 hx35 ⟨f33,f34,hS32⟩ f36 f37 oc19 hF22 hr23 Q24 hN25 hB29 hK26 hR27 hE28
   unfold qcs at hF22
   simp only [qpe,qh,qf,f36,qg,qa,qp0,f34,f33,jf,B0,reduceIte,a7]
   refine qi (v := .ref (cI x17) 0) (kt hx35 rfl) ?_
   simp only [qm,B0,reduceIte,a7]
   refine qi (v := .int .i64 x17) rfl ?_
   obtain ⟨v38,hx39,hF40⟩:=qk hF22
   simp only [za,B0,reduceIte,a7]
   refine ja rfl (ql qu zd) (qll (fun b hb=>decide_eq_true hb) x17 of_1 v38 hx39) ?_
   simp only [qa,qp7,qz,B0,reduceIte,a7]
   refine qx (t:=v38) (fun hc41=>?_) (fun hc41=>?_)
   ·rw [iteT hc41] at hF40
    simp only [qh,qf,qg,qa,q8,B0,reduceIte,a7]
    have e42:=qj hF40
    subst e42
    have ho43:=hr23 _ rfl
    have hk44:=hk21
    rw [ho43] at hk44
    dsimp only [jnO] at hk44
    apply hR27
    have he:=qj hk44
    subst he
    simp only [zg,B0,reduceIte,a7]
    exact ⟨by first | trivial | rfl,hS32⟩
   rw [iteF hc41] at hF40
   simp only [zf,qn,B0,reduceIte,a7]
   have e45:=qj hF40
   exact hN25 _ _ _ e45.symm ⟨f33,f34,hS32⟩ (f36) (f37)
  rintro _ fr47 h48 rfl ⟨f50,f51,hS49⟩
  dsimp only [jnO] at hk21
  unfold qis at hk21
  simp only [qh,qf,qg,qa,q8,B0,reduceIte,a7]
  have he:=qj hk21
  subst he
  simp only [zg,B0,reduceIte,a7]
  exact ⟨by first | trivial | rfl,hS49⟩
 rintro _ h53 ⟨rfl,hS54⟩
 simp only [qv,qb,qcg,qg,qa,q8,B0,reduceIte,a7]
 simp only [zg,B0,reduceIte,a7]
 simp only [je,qb,jt,qg,qa,q8,B0,reduceIte,a7]
 have he:=qj hF12
 subst he
 simp only [zg,B0,reduceIte,a7]
 exact rfl
end Go.Proofs.Ytjloihcijdcpeaa.X
namespace Go.Proofs.Ytjloihcijdcpeaa.X
open Go
theorem qa9 {W:Nat→Bool}{h:Heap} (hW:∀ b,
  (geL h.length) b→W b=true) (v_0:Control) (r:Bool) (hF:yv v_0=some r) : Ret E W 50 [.agg [lst qe v_0.Brokers,lst qd v_0.Parts,
  .int .i64 v_0.Next]] h (fun v h'=>cut h.length h' E.sz false 9 v=some (.bool r)):=by
 refine Ret.of (fn:=x50) rfl (Run.of ?_)
 unfold yv at hF
 have zf0:zj [.agg [lst qe v_0.Brokers,lst qd v_0.Parts,.int .i64 v_0.Next]] 0 = .agg [lst qe v_0.Brokers,lst qd v_0.Parts,
   .int .i64 v_0.Next]:=rfl
 generalize zj [.agg [lst qe v_0.Brokers,lst qd v_0.Parts,.int .i64 v_0.Next]]=fr0 at zf0 ⊢
 have hS:Sep h (geL h.length) []:=a0t h
 simp only [x50,qh,qf,jp,zf0,B0,reduceIte,a7]
 refine jc (cs:=[lst qe v_0.Brokers,lst qd v_0.Parts,.int .i64 v_0.Next]) hS rfl rfl rfl (fun b1 h2 hS3=>?_)
 simp only [qg,qa,B0,reduceIte,a7]
 refine zq hS3 hW (by simp only [B0,reduceIte,a7]) (fun h5 hS6=>?_)
 simp only [zp,qqh,qh,qf,qp,qb,a8,a9,b4,qs,qm,B0,reduceIte,a7]
 refine qi (v:=lst qe v_0.Brokers) rfl ?_
 simp only [zx,qb,z1,qg,qa,qsi,qh,qf,za,B0,reduceIte,a7]
 refine ja rfl (ql qu (ql qu (ql qu zd))) (xk (fun b hb=>decide_eq_true hb) (b6 v_0.Brokers:Int) 1 6 _ rfl) ?_
 simp only [je,qb,jt,qg,B0,reduceIte,a7]
 refine zr 5 (fun fr' h'=>Sep h' (geL h.length) ([])∧fr' 20 = .bool ((!(z0 (b6 v_0.Brokers:Int) 1 6))||(decide ((5:Int) <
   (b6 v_0.Parts:Int))))∧fr' 1 = .ref [lst qe v_0.Brokers,lst qd v_0.Parts,
   .int .i64 v_0.Next] 0∧fr' 3 = .int .i64 (b6 v_0.Brokers:Int)) (fun Q7 hN8=>?_) ?_
 ·simp only [d7,e9]
  simp only [qc (g:=15),B0,reduceIte,a7]
  refine qy (t:=(!(z0 (b6 v_0.Brokers:Int) 1 6))) (fun hg9=>?_) (fun hg9=>?_)
  ·simp only [hg9,qc (g:=15),zv,qr,qb,zh,qa,qn,B0,reduceIte,a7]
   exact hN8 _ _ ⟨hS6,by rw [orT hg9]; simp only [B0,reduceIte,a7],rfl,rfl⟩
  ·simp only [hg9,qc (g:=15),qq,qp,qb,a8,a9,b4,qs,qm,B0,reduceIte,a7]
   refine qi (v:=lst qd v_0.Parts) rfl ?_
   simp only [hg9,qc (g:=15),qq,zx,qb,z1,qv,qc7,qr,zi,qa,qn,B0,reduceIte,a7]
   exact hN8 _ _ ⟨hS6,by rw [orF hg9]; simp only [B0,reduceIte,a7],rfl,rfl⟩
 rintro fr10 h14 ⟨hS15,f11,f12,f13⟩
 simp only [b7,e8]
 simp only [f11,qg,B0,reduceIte,a7]
 refine zr 5 (fun fr' h'=>Sep h' (geL h.length) ([])∧fr' 26 = .bool (((!(z0 (b6 v_0.Brokers:Int) 1 6))||(decide ((5:Int) <
   (b6 v_0.Parts:Int))))||(!(z0 v_0.Next 1 1000)))∧fr' 1 = .ref [lst qe v_0.Brokers,lst qd v_0.Parts,
   .int .i64 v_0.Next] 0∧fr' 3 = .int .i64 (b6 v_0.Brokers:Int)) (fun Q16 hN17=>?_) ?_
 ·simp only [d7,e9]
  simp only [qc (g:=21),B0,reduceIte,a7]
  refine qy (t:=((!(z0 (b6 v_0.Brokers:Int) 1 6))||(decide ((5:Int)<(b6 v_0.Parts:Int))))) (fun hg18=>?_) (fun hg18=>?_)
  ·simp only [hg18,qc (g:=21),zv,qr,qb,zh,qa,qn,B0,reduceIte,a7]
   exact hN17 _ _ ⟨hS15,by rw [orT hg18]; simp only [B0,reduceIte,a7],f12,f13⟩
  ·simp only [hg18,qc (g:=21),qq,f12,qp,qb,a8,a9,b4,qs,qm,B0,reduceIte,a7]
   refine qi (v := .int .i64 v_0.Next) rfl ?_
   simp only [hg18,qc (g:=21),qq,za,B0,reduceIte,a7]
   refine ja rfl (ql qu (ql qu (ql qu zd))) (xk (fun b hb=>decide_eq_true hb) v_0.Next 1 1000 _ rfl) ?_
   simp only [hg18,qc (g:=21),qq,je,qb,jt,qr,zi,qa,qn,B0,reduceIte,a7]
   exact hN17 _ _ ⟨hS15,by rw [orF hg18]; simp only [B0,reduceIte,a7],f12,f13⟩
 rintro fr19 h23 ⟨hS24,f20,f21,f22⟩
 simp only [b7,e8]
 simp only [qa,f20,qz,B0,reduceIte,a7]
 refine qx (t:=(((!(z0 (b6 v_0.Brokers:Int) 1 6))||(decide ((5:Int)<(b6 v_0.Parts:Int))))||(!(z0 v_0.Next 1 1000))))
   (fun hc25=>?_) (fun hc25=>?_)
 ·rw [iteT hc25] at hF
  simp only [qh,qf,qg,qa,q8,B0,reduceIte,a7]
  have he:=qj hF
  subst he
  simp only [zg,B0,reduceIte,a7]
  exact rfl
 rw [iteF hc25] at hF
 simp only [zf,qsc,qh,qf,f21,qp,qb,a8,a9,b4,qs,qm,B0,reduceIte,a7]
 refine qi (v:=lst qe v_0.Brokers) rfl ?_
 simp only [zx,qb,z1,qg,qa,B0,reduceIte,a7]
 obtain ⟨oc28,hX30,hk31⟩:=jo hF
 simp only [q5r]
 refine ku (σ:=Unit) v_0.Brokers (fun i26 x27 _=>qao v_0 i26 x27 ) (fun s fr' h'=>fr' 1 = .ref [lst qe v_0.Brokers,
   lst qd v_0.Parts,.int .i64 v_0.Next] 0∧fr' 3 = .int .i64 (b6 v_0.Brokers:Int)∧fr' 28=lst qe v_0.Brokers∧Sep h' (geL h.length)
   ([])) hX30 ⟨f21,f22,rfl,hS24⟩ (by simp only [B0,reduceIte,a7]) (by simp only [B0,reduceIte,
   a7]) (fun _ _ _ h=>h) rfl rfl (fun _ _ _ _ h=>h) (fun _ _ _ _ h=>h) (fun _ _ _ _ h=>h) (by decide) ?_ ?_
 ·rintro i26 x27 _ fr40 h41 hx46 ⟨f43,f44,f45,hS42⟩ f47 f48 oc29 hF32 hr33 Q34 hN35 hB39 hK36 hR37 hE38
  unfold qao at hF32
  simp only [q6z,qh,qf,f45,f47,jf,B0,reduceIte,a7]
  refine qi (v := .ref (qe x27) 0) (kt hx46 rfl) ?_
  simp only [qm,B0,reduceIte,a7]
  refine qi (v := .agg [.int .i64 x27.Epoch,.int .i64 x27.Left,.bool x27.Fenced]) rfl ?_
  simp only [z5,B0,reduceIte,a7]
  refine zt hS42 (fun b49 h50 hS51=>?_)
  simp only [zk,B0,reduceIte,a7]
  refine zb (us:=[.int .i64 x27.Epoch,.int .i64 x27.Left,.bool x27.Fenced]) rfl (cs':=[.int .i64 x27.Epoch,.int .i64 x27.Left,
    .bool x27.Fenced]) hS51 hW rfl rfl (nle rfl) rfl (fun h53 hS54=>?_)
  simp only [qa,B0,reduceIte,a7]
  refine zq hS54 hW (by simp only [B0,reduceIte,a7]) (fun h55 hS56=>?_)
  simp only [zp,q1k,qh,qf,qp,qb,a8,a9,b4,qs,qm,B0,reduceIte,a7]
  refine qi (v := .int .i64 x27.Epoch) rfl ?_
  simp only [f43,qp,qb,a8,a9,b4,qs,qm,B0,reduceIte,a7]
  refine qi (v := .int .i64 v_0.Next) rfl ?_
  simp only [qv,qb,qe1,za,B0,reduceIte,a7]
  refine ja rfl (ql qu (ql qu (ql qu zd))) (xk (fun b hb=>decide_eq_true hb) x27.Epoch 0 (d8 .i64 (v_0.Next - 1)) _ rfl) ?_
  simp only [je,qb,jt,qg,B0,reduceIte,a7]
  refine zr 5 (fun fr' h'=>Sep h' (geL h.length) ([])∧fr' 46 = .bool ((!(z0 x27.Epoch 0 (d8 .i64 (v_0.Next - 1)))) ||
    (!(z0 x27.Left 0 9)))∧fr' 1 = .ref [lst qe v_0.Brokers,lst qd v_0.Parts,
    .int .i64 v_0.Next] 0∧fr' 3 = .int .i64 (b6 v_0.Brokers:Int)∧fr' 5 = .ref [.int .i64 x27.Epoch,.int .i64 x27.Left,
    .bool x27.Fenced] 0∧fr' 28=lst qe v_0.Brokers∧fr' 29 = .int .i64 (b6 v_0.Brokers:Int)∧fr' 30 = .int .i64 (i26:Int)) (fun Q57 hN58=>?_) ?_
  ·simp only [d7,e9]
   simp only [qc (g:=41),B0,reduceIte,a7]
   refine qy (t:=(!(z0 x27.Epoch 0 (d8 .i64 (v_0.Next - 1))))) (fun hg59=>?_) (fun hg59=>?_)
   ·simp only [hg59,qc (g:=41),zv,qr,qb,zh,qa,qn,B0,reduceIte,a7]
    exact hN58 _ _ ⟨hS56,by rw [orT hg59]; simp only [B0,reduceIte,a7],f43,f44,rfl,f45,f48,f47⟩
   ·simp only [hg59,qc (g:=41),qq,qp,qb,a8,a9,b4,qs,qm,B0,reduceIte,a7]
    refine qi (v := .int .i64 x27.Left) rfl ?_
    simp only [hg59,qc (g:=41),qq,za,B0,reduceIte,a7]
    refine ja rfl (ql qu (ql qu (ql qu zd))) (xk (fun b hb=>decide_eq_true hb) x27.Left 0 9 _ rfl) ?_
    simp only [hg59,qc (g:=41),qq,je,qb,jt,qr,zi,qa,qn,B0,reduceIte,a7]
    exact hN58 _ _ ⟨hS56,by rw [orF hg59]; simp only [B0,reduceIte,a7],f43,f44,rfl,f45,f48,f47⟩
  rintro fr60 h68 ⟨hS69,f61,f62,f63,f64,f65,f66,f67⟩
  simp only [b7,e8]
  simp only [f61,qg,B0,reduceIte,a7]
  refine zr 9 (fun fr' h'=>Sep h' (geL h.length) ([])∧fr' 56 = .bool (((!(z0 x27.Epoch 0 (d8 .i64 (v_0.Next - 1))))||(!(z0 x27.Left 0 9))) ||
    ((decide (x27.Epoch=0))&&(decide (x27.Left≠0))))∧fr' 1 = .ref [lst qe v_0.Brokers,lst qd v_0.Parts,
    .int .i64 v_0.Next] 0∧fr' 3 = .int .i64 (b6 v_0.Brokers:Int)∧fr' 5 = .ref [.int .i64 x27.Epoch,.int .i64 x27.Left,
    .bool x27.Fenced] 0∧fr' 28=lst qe v_0.Brokers∧fr' 29 = .int .i64 (b6 v_0.Brokers:Int)∧fr' 30 = .int .i64 (i26:Int)) (fun Q70 hN71=>?_) ?_
  ·simp only [d7,e9]
   simp only [qc (g:=47),B0,reduceIte,a7]
   refine qy (t:=((!(z0 x27.Epoch 0 (d8 .i64 (v_0.Next - 1))))||(!(z0 x27.Left 0 9)))) (fun hg72=>?_) (fun hg72=>?_)
   ·simp only [hg72,qc (g:=47),zv,qc (g:=51),u4,qr,qb,zh,qa,qn,B0,reduceIte,a7]
    exact hN71 _ _ ⟨hS69,by rw [orT hg72]; simp only [B0,reduceIte,a7],f62,f63,f64,f65,f66,f67⟩
   ·simp only [hg72,qc (g:=47),qq,f64,qp,qb,a8,a9,b4,qs,qm,B0,reduceIte,a7]
    refine qi (v := .int .i64 x27.Epoch) rfl ?_
    simp only [hg72,qc (g:=47),qq,qv,qb,z8,qg,B0,reduceIte,a7]
    refine zr 4 (fun fr' h'=>Sep h' (geL h.length) ([])∧fr' 55 = .bool ((decide (x27.Epoch=0))&&(decide
      (x27.Left≠0)))∧fr' 1 = .ref [lst qe v_0.Brokers,lst qd v_0.Parts,
      .int .i64 v_0.Next] 0∧fr' 3 = .int .i64 (b6 v_0.Brokers:Int)∧fr' 5 = .ref [.int .i64 x27.Epoch,.int .i64 x27.Left,
      .bool x27.Fenced] 0∧fr' 28=lst qe v_0.Brokers∧fr' 29 = .int .i64 (b6 v_0.Brokers:Int)∧fr' 30 = .int .i64 (i26:Int)∧fr' 47 = .bool
      ((!(z0 x27.Epoch 0 (d8 .i64 (v_0.Next - 1))))||(!(z0 x27.Left 0 9)))) (fun Q73 hN74=>?_) ?_
    ·simp only [d7,e9]
     simp only [qc (g:=51),B0,reduceIte,a7]
     refine qy (t:=(decide (x27.Epoch=0))) (fun hg75=>?_) (fun hg75=>?_)
     ·simp only [hg75,qc (g:=51),qw,f64,qp,qb,a8,a9,b4,qs,qm,B0,reduceIte,a7]
      refine qi (v := .int .i64 x27.Left) rfl ?_
      simp only [hg75,qc (g:=51),qw,qv,qb,wm,hg72,qc (g:=47),qq,qr,zh,qa,qn,B0,
        reduceIte,a7]
      exact hN74 _ _ ⟨hS69,by rw [k8 hg75]; simp only [B0,reduceIte,a7],f62,f63,f64,f65,f66,f67,by simp only [hg72,B0,reduceIte,a7]⟩
     ·simp only [hg75,qc (g:=51),zy,hg72,qc (g:=47),qq,qr,qb,zi,qa,qn,B0,reduceIte,
       a7]
      exact hN74 _ _ ⟨hS69,by rw [k9 hg75]; simp only [B0,reduceIte,a7],f62,f63,f64,f65,f66,f67,by simp only [hg72,B0,reduceIte,a7]⟩
    rintro fr76 h85 ⟨hS86,f77,f78,f79,f80,f81,f82,f83,f84⟩
    simp only [b7,e8]
    simp only [f84,hg72,qr,qb,zi,f77,qa,qn,B0,reduceIte,a7]
    exact hN71 _ _ ⟨hS86,by rw [orF hg72]; simp only [B0,reduceIte,a7],f78,f79,f80,f81,f82,f83⟩
  rintro fr87 h95 ⟨hS96,f88,f89,f90,f91,f92,f93,f94⟩
  simp only [b7,e8]
  simp only [f88,qg,B0,reduceIte,a7]
  refine zr 7 (fun fr' h'=>Sep h' (geL h.length) ([])∧fr' 64 = .bool ((((!(z0 x27.Epoch 0 (d8 .i64 (v_0.Next - 1))))||(!(z0 x27.Left 0 9))) ||
    ((decide (x27.Epoch=0))&&(decide (x27.Left≠0))))||(!(x27.Fenced == (decide (x27.Left=0)))))∧fr' 1 = .ref [lst qe v_0.Brokers,
    lst qd v_0.Parts,.int .i64 v_0.Next] 0∧fr' 3 = .int .i64 (b6 v_0.Brokers:Int)∧fr' 28=lst qe v_0.Brokers∧fr' 29 = .int .i64
    (b6 v_0.Brokers:Int)∧fr' 30 = .int .i64 (i26:Int)) (fun Q97 hN98=>?_) ?_
  ·simp only [d7,e9]
   simp only [qc (g:=57),B0,reduceIte,a7]
   refine qy (t:=(((!(z0 x27.Epoch 0 (d8 .i64 (v_0.Next - 1))))||(!(z0 x27.Left 0 9)))||((decide (x27.Epoch=0))&&(decide
     (x27.Left≠0))))) (fun hg99=>?_) (fun hg99=>?_)
   ·simp only [hg99,qc (g:=57),zv,qr,qb,zh,qa,qn,B0,reduceIte,a7]
    exact hN98 _ _ ⟨hS96,by rw [orT hg99]; simp only [B0,reduceIte,a7],f89,f90,f92,f93,f94⟩
   ·simp only [hg99,qc (g:=57),qq,f91,qp,qb,a8,a9,b4,qs,qm,B0,reduceIte,a7]
    refine qi (v := .bool x27.Fenced) rfl ?_
    simp only [hg99,qc (g:=57),qq,f91,qp,qb,a8,a9,b4,qs,qm,B0,reduceIte,a7]
    refine qi (v := .int .i64 x27.Left) rfl ?_
    simp only [hg99,qc (g:=57),qq,qv,qb,z8,qgw,qkp,qr,zi,qa,qn,B0,reduceIte,a7]
    exact hN98 _ _ ⟨hS96,by rw [orF hg99]; simp only [B0,reduceIte,a7],f89,f90,f92,f93,f94⟩
  rintro fr100 h107 ⟨hS108,f101,f102,f103,f104,f105,f106⟩
  simp only [b7,e8]
  simp only [qa,f101,qz,B0,reduceIte,a7]
  refine qx (t:=((((!(z0 x27.Epoch 0 (d8 .i64 (v_0.Next - 1))))||(!(z0 x27.Left 0 9)))||((decide (x27.Epoch=0))&&(decide
    (x27.Left≠0))))||(!(x27.Fenced == (decide (x27.Left=0)))))) (fun hc109=>?_) (fun hc109=>?_)
  ·rw [iteT hc109] at hF32
   simp only [qh,qf,qg,qa,q8,B0,reduceIte,a7]
   have e110:=qj hF32
   subst e110
   have ho111:=hr33 _ rfl
   have hk112:=hk31
   rw [ho111] at hk112
   dsimp only [jnO] at hk112
   apply hR37
   have he:=qj hk112
   subst he
   simp only [zg,B0,reduceIte,a7]
   exact rfl
  rw [iteF hc109] at hF32
  simp only [zf,qn,B0,reduceIte,a7]
  have e113:=qj hF32
  exact hN35 _ _ _ e113.symm ⟨f102,f103,f104,hS108⟩ (f106) (f105)
 rintro _ fr115 h116 rfl ⟨f118,f119,f120,hS117⟩
 dsimp only [jnO] at hk31
 unfold qdr at hk31
 simp only [qtl,qh,qf,f118,qp,qb,a8,a9,b4,qs,qm,B0,reduceIte,a7]
 refine qi (v:=lst qd v_0.Parts) rfl ?_
 simp only [zx,qb,z1,qg,qa,B0,reduceIte,a7]
 obtain ⟨oc123,hX125,hk126⟩:=jo hk31
 simp only [qq1]
 refine ku (σ:=Unit) v_0.Parts (fun i121 x122 _=>qan v_0 i121 x122 ) (fun s fr' h'=>fr' 1 = .ref [lst qe v_0.Brokers,
   lst qd v_0.Parts,.int .i64 v_0.Next] 0∧fr' 3 = .int .i64 (b6 v_0.Brokers:Int)∧fr' 67=lst qd v_0.Parts∧Sep h' (geL h.length)
   ([])) hX125 ⟨f118,f119,rfl,hS117⟩ (by simp only [B0,reduceIte,a7]) (by simp only [B0,reduceIte,
   a7]) (fun _ _ _ h=>h) rfl rfl (fun _ _ _ _ h=>h) (fun _ _ _ _ h=>h) (fun _ _ _ _ h=>h) (by decide) ?_ ?_
 ·rintro i121 x122 _ fr135 h136 hx141 ⟨f138,f139,f140,hS137⟩ f142 f143 oc124 hF127 hr128 Q129 hN130 hB134 hK131 hR132 hE133
  unfold qan at hF127
  simp only [q2f,qh,qf,f140,f142,jf,B0,reduceIte,a7]
  refine qi (v := .ref (qd x122) 0) (kt hx141 rfl) ?_
  simp only [qm,B0,reduceIte,a7]
  refine qi (v := .agg [lst cI x122.Homes,lst cI x122.InStep,.int .i64 x122.Leader,.int .i64 x122.Epoch,.int .i64 x122.Stamp]) rfl ?_
  simp only [z5,B0,reduceIte,a7]
  refine zt hS137 (fun b144 h145 hS146=>?_)
  simp only [zk,B0,reduceIte,a7]
  refine zb (us:=[lst cI x122.Homes,lst cI x122.InStep,.int .i64 x122.Leader,.int .i64 x122.Epoch,.int .i64 x122.Stamp]) rfl (cs':=[lst cI x122.Homes,
    lst cI x122.InStep,.int .i64 x122.Leader,.int .i64 x122.Epoch,.int .i64 x122.Stamp]) hS146 hW rfl rfl (nle rfl) rfl (fun h148 hS149=>?_)
  simp only [qa,B0,reduceIte,a7]
  refine zq hS149 hW (by simp only [B0,reduceIte,a7]) (fun h150 hS151=>?_)
  simp only [zp,q5n,qh,qf,qp,qb,a8,a9,b4,qs,qm,B0,reduceIte,a7]
  refine qi (v:=lst cI x122.Homes) rfl ?_
  simp only [zx,qb,z1,qv,z8,qg,B0,reduceIte,a7]
  obtain ⟨v155,hx156,hF157⟩:=qk hF127
  refine zr 6 (fun fr' h'=>Sep h' (geL h.length) ([])∧fr' 83 = .bool v155∧fr' 1 = .ref [lst qe v_0.Brokers,lst qd v_0.Parts,
    .int .i64 v_0.Next] 0∧fr' 3 = .int .i64 (b6 v_0.Brokers:Int)∧fr' 7 = .ref [lst cI x122.Homes,lst cI x122.InStep,.int .i64 x122.Leader,
    .int .i64 x122.Epoch,.int .i64 x122.Stamp] 0∧fr' 67=lst qd v_0.Parts∧fr' 68 = .int .i64 (b6 v_0.Parts:Int)∧fr' 69 = .int .i64
    (i121:Int)) (fun Q152 hN153=>?_) ?_
  ·simp only [d7,e9]
   simp only [qc (g:=77),B0,reduceIte,a7]
   refine qy (t:=(decide ((b6 x122.Homes:Int)=0))) (fun hg154=>?_) (fun hg154=>?_)
   ·rw [iteT hg154] at hx156
    simp only [hg154,qc (g:=77),zv,qr,qb,zh,qa,qn,B0,reduceIte,a7]
    have e158:=qj hx156
    exact hN153 _ _ ⟨hS151,by rw [←e158]; simp only [B0,reduceIte,a7],f138,f139,rfl,f140,f143,f142⟩
   ·rw [iteF hg154] at hx156
    simp only [hg154,qc (g:=77),qq,qp,qb,a8,a9,b4,qs,qm,B0,reduceIte,a7]
    refine qi (v:=lst cI x122.Homes) rfl ?_
    obtain ⟨v159,hx160,hF161⟩:=qk hx156
    simp only [hg154,qc (g:=77),qq,f139,qg,za,B0,reduceIte,a7]
    refine ja rfl (ql zn (ql qu zd)) (qdt (fun b hb=>decide_eq_true hb) x122.Homes (b6 v_0.Brokers:Int) v159 hx160) ?_
    simp only [hg154,qc (g:=77),qq,je,qb,jt,qr,zi,qa,qn,B0,reduceIte,a7]
    have e162:=qj hF161
    exact hN153 _ _ ⟨hS151,by rw [←e162]; simp only [B0,reduceIte,a7],f138,f139,rfl,f140,f143,f142⟩
  rintro fr163 h171 ⟨hS172,f164,f165,f166,f167,f168,f169,f170⟩
  simp only [b7,e8]
  simp only [f164,qg,B0,reduceIte,a7]
  refine zr 5 (fun fr' h'=>Sep h' (geL h.length) ([])∧fr' 89 = .bool (v155||(decide
    ((b6 x122.InStep:Int)=0)))∧fr' 1 = .ref [lst qe v_0.Brokers,lst qd v_0.Parts,
    .int .i64 v_0.Next] 0∧fr' 3 = .int .i64 (b6 v_0.Brokers:Int)∧fr' 7 = .ref [lst cI x122.Homes,lst cI x122.InStep,.int .i64 x122.Leader,
    .int .i64 x122.Epoch,.int .i64 x122.Stamp] 0∧fr' 67=lst qd v_0.Parts∧fr' 68 = .int .i64 (b6 v_0.Parts:Int)∧fr' 69 = .int .i64
    (i121:Int)) (fun Q173 hN174=>?_) ?_
  ·simp only [d7,e9]
   simp only [qc (g:=84),B0,reduceIte,a7]
   refine qy (t:=v155) (fun hg175=>?_) (fun hg175=>?_)
   ·simp only [hg175,qc (g:=84),zv,qr,qb,zh,qa,qn,B0,reduceIte,a7]
    exact hN174 _ _ ⟨hS172,by rw [orT hg175]; simp only [B0,reduceIte,a7],f165,f166,f167,f168,f169,f170⟩
   ·simp only [hg175,qc (g:=84),qq,f167,qp,qb,a8,a9,b4,qs,qm,B0,reduceIte,a7]
    refine qi (v:=lst cI x122.InStep) rfl ?_
    simp only [hg175,qc (g:=84),qq,zx,qb,z1,qv,z8,qr,zi,qa,qn,B0,reduceIte,a7]
    exact hN174 _ _ ⟨hS172,by rw [orF hg175]; simp only [B0,reduceIte,a7],f165,f166,f167,f168,f169,f170⟩
  rintro fr176 h184 ⟨hS185,f177,f178,f179,f180,f181,f182,f183⟩
  simp only [b7,e8]
  simp only [f177,qg,B0,reduceIte,a7]
  obtain ⟨v189,hx190,hF191⟩:=qk hF157
  refine zr 6 (fun fr' h'=>Sep h' (geL h.length) ([])∧fr' 96 = .bool v189∧fr' 1 = .ref [lst qe v_0.Brokers,lst qd v_0.Parts,
    .int .i64 v_0.Next] 0∧fr' 3 = .int .i64 (b6 v_0.Brokers:Int)∧fr' 7 = .ref [lst cI x122.Homes,lst cI x122.InStep,.int .i64 x122.Leader,
    .int .i64 x122.Epoch,.int .i64 x122.Stamp] 0∧fr' 67=lst qd v_0.Parts∧fr' 68 = .int .i64 (b6 v_0.Parts:Int)∧fr' 69 = .int .i64
    (i121:Int)) (fun Q186 hN187=>?_) ?_
  ·simp only [d7,e9]
   simp only [qc (g:=90),B0,reduceIte,a7]
   refine qy (t:=(v155||(decide ((b6 x122.InStep:Int)=0)))) (fun hg188=>?_) (fun hg188=>?_)
   ·rw [iteT hg188] at hx190
    simp only [hg188,qc (g:=90),zv,qr,qb,zh,qa,qn,B0,reduceIte,a7]
    have e192:=qj hx190
    exact hN187 _ _ ⟨hS185,by rw [←e192]; simp only [B0,reduceIte,a7],f178,f179,f180,f181,f182,f183⟩
   ·rw [iteF hg188] at hx190
    simp only [hg188,qc (g:=90),qq,f180,qp,qb,a8,a9,b4,qs,qm,B0,reduceIte,a7]
    refine qi (v:=lst cI x122.InStep) rfl ?_
    obtain ⟨v193,hx194,hF195⟩:=qk hx190
    simp only [hg188,qc (g:=90),qq,f179,qg,za,B0,reduceIte,a7]
    refine ja rfl (ql zn (ql qu zd)) (qdt (fun b hb=>decide_eq_true hb) x122.InStep (b6 v_0.Brokers:Int) v193 hx194) ?_
    simp only [hg188,qc (g:=90),qq,je,qb,jt,qr,zi,qa,qn,B0,reduceIte,a7]
    have e196:=qj hF195
    exact hN187 _ _ ⟨hS185,by rw [←e196]; simp only [B0,reduceIte,a7],f178,f179,f180,f181,f182,f183⟩
  rintro fr197 h205 ⟨hS206,f198,f199,f200,f201,f202,f203,f204⟩
  simp only [b7,e8]
  simp only [f198,qg,B0,reduceIte,a7]
  obtain ⟨v210,hx211,hF212⟩:=qk hF191
  refine zr 7 (fun fr' h'=>Sep h' (geL h.length) ([])∧fr' 104 = .bool v210∧fr' 1 = .ref [lst qe v_0.Brokers,lst qd v_0.Parts,
    .int .i64 v_0.Next] 0∧fr' 3 = .int .i64 (b6 v_0.Brokers:Int)∧fr' 7 = .ref [lst cI x122.Homes,lst cI x122.InStep,.int .i64 x122.Leader,
    .int .i64 x122.Epoch,.int .i64 x122.Stamp] 0∧fr' 67=lst qd v_0.Parts∧fr' 68 = .int .i64 (b6 v_0.Parts:Int)∧fr' 69 = .int .i64
    (i121:Int)) (fun Q207 hN208=>?_) ?_
  ·simp only [d7,e9]
   simp only [qc (g:=97),B0,reduceIte,a7]
   refine qy (t:=v189) (fun hg209=>?_) (fun hg209=>?_)
   ·rw [iteT hg209] at hx211
    simp only [hg209,qc (g:=97),zv,qr,qb,zh,qa,qn,B0,reduceIte,a7]
    have e213:=qj hx211
    exact hN208 _ _ ⟨hS206,by rw [←e213]; simp only [B0,reduceIte,a7],f199,f200,f201,f202,f203,f204⟩
   ·rw [iteF hg209] at hx211
    simp only [hg209,qc (g:=97),qq,f201,qp,qb,a8,a9,b4,qs,qm,B0,reduceIte,a7]
    refine qi (v:=lst cI x122.InStep) rfl ?_
    simp only [hg209,qc (g:=97),qq,f201,qp,qb,a8,a9,b4,qs,qm,B0,reduceIte,a7]
    refine qi (v:=lst cI x122.Homes) rfl ?_
    obtain ⟨v214,hx215,hF216⟩:=qk hx211
    simp only [hg209,qc (g:=97),qq,za,B0,reduceIte,a7]
    refine ja rfl (ql zn (ql zn zd)) (qjb (fun b hb=>decide_eq_true hb) x122.InStep x122.Homes v214 hx215) ?_
    simp only [hg209,qc (g:=97),qq,je,qb,jt,qr,zi,qa,qn,B0,reduceIte,a7]
    have e217:=qj hF216
    exact hN208 _ _ ⟨hS206,by rw [←e217]; simp only [B0,reduceIte,a7],f199,f200,f201,f202,f203,f204⟩
  rintro fr218 h226 ⟨hS227,f219,f220,f221,f222,f223,f224,f225⟩
  simp only [b7,e8]
  simp only [f219,qg,B0,reduceIte,a7]
  refine zr 5 (fun fr' h'=>Sep h' (geL h.length) ([])∧fr' 110 = .bool (v210||(!(z0 x122.Epoch 0 1000)))∧fr' 1 = .ref [lst qe v_0.Brokers,
    lst qd v_0.Parts,.int .i64 v_0.Next] 0∧fr' 3 = .int .i64 (b6 v_0.Brokers:Int)∧fr' 7 = .ref [lst cI x122.Homes,lst cI x122.InStep,
    .int .i64 x122.Leader,.int .i64 x122.Epoch,
    .int .i64 x122.Stamp] 0∧fr' 67=lst qd v_0.Parts∧fr' 68 = .int .i64 (b6 v_0.Parts:Int)∧fr' 69 = .int .i64 (i121:Int))
    (fun Q228 hN229=>?_) ?_
  ·simp only [d7,e9]
   simp only [qc (g:=105),B0,reduceIte,a7]
   refine qy (t:=v210) (fun hg230=>?_) (fun hg230=>?_)
   ·simp only [hg230,qc (g:=105),zv,qr,qb,zh,qa,qn,B0,reduceIte,a7]
    exact hN229 _ _ ⟨hS227,by rw [orT hg230]; simp only [B0,reduceIte,a7],f220,f221,f222,f223,f224,f225⟩
   ·simp only [hg230,qc (g:=105),qq,f222,qp,qb,a8,a9,b4,qs,qm,B0,reduceIte,a7]
    refine qi (v := .int .i64 x122.Epoch) rfl ?_
    simp only [hg230,qc (g:=105),qq,za,B0,reduceIte,a7]
    refine ja rfl (ql qu (ql qu (ql qu zd))) (xk (fun b hb=>decide_eq_true hb) x122.Epoch 0 1000 _ rfl) ?_
    simp only [hg230,qc (g:=105),qq,je,qb,jt,qr,zi,qa,qn,B0,reduceIte,a7]
    exact hN229 _ _ ⟨hS227,by rw [orF hg230]; simp only [B0,reduceIte,a7],f220,f221,f222,f223,f224,f225⟩
  rintro fr231 h239 ⟨hS240,f232,f233,f234,f235,f236,f237,f238⟩
  simp only [b7,e8]
  simp only [f232,qg,B0,reduceIte,a7]
  refine zr 5 (fun fr' h'=>Sep h' (geL h.length) ([])∧fr' 116 = .bool ((v210||(!(z0 x122.Epoch 0 1000))) ||
    (!(z0 x122.Stamp 0 1000)))∧fr' 1 = .ref [lst qe v_0.Brokers,lst qd v_0.Parts,
    .int .i64 v_0.Next] 0∧fr' 3 = .int .i64 (b6 v_0.Brokers:Int)∧fr' 7 = .ref [lst cI x122.Homes,lst cI x122.InStep,.int .i64 x122.Leader,
    .int .i64 x122.Epoch,.int .i64 x122.Stamp] 0∧fr' 67=lst qd v_0.Parts∧fr' 68 = .int .i64 (b6 v_0.Parts:Int)∧fr' 69 = .int .i64
    (i121:Int)) (fun Q241 hN242=>?_) ?_
  ·simp only [d7,e9]
   simp only [qc (g:=111),B0,reduceIte,a7]
   refine qy (t:=(v210||(!(z0 x122.Epoch 0 1000)))) (fun hg243=>?_) (fun hg243=>?_)
   ·simp only [hg243,qc (g:=111),zv,qr,qb,zh,qa,qn,B0,reduceIte,a7]
    exact hN242 _ _ ⟨hS240,by rw [orT hg243]; simp only [B0,reduceIte,a7],f233,f234,f235,f236,f237,f238⟩
   ·simp only [hg243,qc (g:=111),qq,f235,qp,qb,a8,a9,b4,qs,qm,B0,reduceIte,a7]
    refine qi (v := .int .i64 x122.Stamp) rfl ?_
    simp only [hg243,qc (g:=111),qq,za,B0,reduceIte,a7]
    refine ja rfl (ql qu (ql qu (ql qu zd))) (xk (fun b hb=>decide_eq_true hb) x122.Stamp 0 1000 _ rfl) ?_
    simp only [hg243,qc (g:=111),qq,je,qb,jt,qr,zi,qa,qn,B0,reduceIte,a7]
    exact hN242 _ _ ⟨hS240,by rw [orF hg243]; simp only [B0,reduceIte,a7],f233,f234,f235,f236,f237,f238⟩
  rintro fr244 h252 ⟨hS253,f245,f246,f247,f248,f249,f250,f251⟩
  simp only [b7,e8]
  simp only [qa,f245,qz,B0,reduceIte,a7]
  refine qx (t:=((v210||(!(z0 x122.Epoch 0 1000)))||(!(z0 x122.Stamp 0 1000)))) (fun hc254=>?_) (fun hc254=>?_)
  ·rw [iteT hc254] at hF212
   simp only [qh,qf,qg,qa,q8,B0,reduceIte,a7]
   have e255:=qj hF212
   subst e255
   have ho256:=hr128 _ rfl
   have hk257:=hk126
   rw [ho256] at hk257
   dsimp only [jnO] at hk257
   apply hR132
   have he:=qj hk257
   subst he
   simp only [zg,B0,reduceIte,a7]
   exact rfl
  rw [iteF hc254] at hF212
  simp only [zf,q06,qh,qf,f246,qm,B0,reduceIte,a7]
  refine qi (v := .agg [lst qe v_0.Brokers,lst qd v_0.Parts,.int .i64 v_0.Next]) rfl ?_
  simp only [f248,qp,qb,a8,a9,b4,qs,qm,B0,reduceIte,a7]
  refine qi (v:=lst cI x122.InStep) rfl ?_
  obtain ⟨v258,hx259,hF260⟩:=qk hF212
  simp only [za,B0,reduceIte,a7]
  refine ja rfl (ql (z4 (ql zn (ql zn (ql qu zd)))) (ql zn zd)) (qde
    (fun b hb=>decide_eq_true hb) v_0 x122.InStep v258 hx259) ?_
  simp only [qg,qa,q5h,qh,qf,f248,qp,qb,a8,a9,b4,qs,qm,B0,reduceIte,a7]
  refine qi (v := .int .i64 x122.Leader) rfl ?_
  simp only [qv,qb,z8,qg,B0,reduceIte,a7]
  refine zr 3 (fun fr' h'=>Sep h' (geL h.length) ([])∧fr' 127 = .bool ((decide (x122.Leader=(-1)))&&(decide (v258 ≠
    (-1))))∧fr' 1 = .ref [lst qe v_0.Brokers,lst qd v_0.Parts,
    .int .i64 v_0.Next] 0∧fr' 3 = .int .i64 (b6 v_0.Brokers:Int)∧fr' 7 = .ref [lst cI x122.Homes,lst cI x122.InStep,.int .i64 x122.Leader,
    .int .i64 x122.Epoch,.int .i64 x122.Stamp] 0∧fr' 67=lst qd v_0.Parts∧fr' 68 = .int .i64 (b6 v_0.Parts:Int)∧fr' 69 = .int .i64
    (i121:Int)) (fun Q261 hN262=>?_) ?_
  ·simp only [d7,e9]
   simp only [qc (g:=124),B0,reduceIte,a7]
   refine qy (t:=(decide (x122.Leader=(-1)))) (fun hg263=>?_) (fun hg263=>?_)
   ·simp only [hg263,qc (g:=124),qw,qg,qv,qb,wm,qr,zh,qa,qn,B0,reduceIte,a7]
    exact hN262 _ _ ⟨hS253,by rw [k8 hg263]; simp only [B0,reduceIte,a7],f246,f247,f248,f249,f250,f251⟩
   ·simp only [hg263,qc (g:=124),zy,qr,qb,zi,qa,qn,B0,reduceIte,a7]
    exact hN262 _ _ ⟨hS253,by rw [k9 hg263]; simp only [B0,reduceIte,a7],f246,f247,f248,f249,f250,f251⟩
  rintro fr264 h272 ⟨hS273,f265,f266,f267,f268,f269,f270,f271⟩
  simp only [b7,e8]
  simp only [f265,qg,B0,reduceIte,a7]
  obtain ⟨v277,hx278,hF279⟩:=qk hF260
  refine zr 21 (fun fr' h'=>Sep h' (geL h.length) ([])∧fr' 149 = .bool v277∧fr' 1 = .ref [lst qe v_0.Brokers,lst qd v_0.Parts,
    .int .i64 v_0.Next] 0∧fr' 3 = .int .i64 (b6 v_0.Brokers:Int)∧fr' 67=lst qd v_0.Parts∧fr' 68 = .int .i64
    (b6 v_0.Parts:Int)∧fr' 69 = .int .i64 (i121:Int)) (fun Q274 hN275=>?_) ?_
  ·simp only [d7,e9]
   simp only [qc (g:=128),B0,reduceIte,a7]
   refine qy (t:=((decide (x122.Leader=(-1)))&&(decide (v258≠(-1))))) (fun hg276=>?_) (fun hg276=>?_)
   ·rw [iteT hg276] at hx278
    simp only [hg276,qc (g:=128),zv,qc (g:=132),u4,qc (g:=139),qr,qb,zh,qa,qn,B0,
      reduceIte,a7]
    have e280:=qj hx278
    exact hN275 _ _ ⟨hS273,by rw [←e280]; simp only [B0,reduceIte,a7],f266,f267,f269,f270,f271⟩
   ·rw [iteF hg276] at hx278
    simp only [hg276,qc (g:=128),qq,f268,qp,qb,a8,a9,b4,qs,qm,B0,reduceIte,a7]
    refine qi (v := .int .i64 x122.Leader) rfl ?_
    simp only [hg276,qc (g:=128),qq,qv,qb,wm,qg,B0,reduceIte,a7]
    obtain ⟨v284,hx285,hF286⟩:=qk hx278
    refine zr 16 (fun fr' h'=>Sep h' (geL h.length) ([])∧fr' 148 = .bool v284∧fr' 1 = .ref [lst qe v_0.Brokers,lst qd v_0.Parts,
      .int .i64 v_0.Next] 0∧fr' 3 = .int .i64 (b6 v_0.Brokers:Int)∧fr' 67=lst qd v_0.Parts∧fr' 68 = .int .i64
      (b6 v_0.Parts:Int)∧fr' 69 = .int .i64 (i121:Int)∧fr' 128 = .bool ((decide (x122.Leader=(-1)))&&(decide (v258≠(-1))))) (fun Q281 hN282=>?_) ?_
    ·simp only [d7,e9]
     simp only [qc (g:=132),B0,reduceIte,a7]
     refine qy (t:=(decide (x122.Leader≠(-1)))) (fun hg283=>?_) (fun hg283=>?_)
     ·rw [iteT hg283] at hx285
      simp only [hg283,qc (g:=132),qw,f268,qp,qb,a8,a9,b4,qs,qm,B0,reduceIte,a7]
      refine qi (v:=lst cI x122.InStep) rfl ?_
      simp only [hg283,qc (g:=132),qw,f268,qp,qb,a8,a9,b4,qs,qm,B0,reduceIte,a7]
      refine qi (v := .int .i64 x122.Leader) rfl ?_
      obtain ⟨v287,hx288,hF289⟩:=qk hx285
      simp only [hg283,qc (g:=132),qw,za,B0,reduceIte,a7]
      refine ja rfl (ql zn (ql qu zd)) (xh (fun b hb=>decide_eq_true hb) x122.InStep x122.Leader v287 hx288) ?_
      simp only [hg283,qc (g:=132),qw,je,qb,jt,qg,B0,reduceIte,a7]
      obtain ⟨v293,hx294,hF295⟩:=qk hF289
      refine zr 8 (fun fr' h'=>Sep h' (geL h.length) ([])∧fr' 147 = .bool v293∧fr' 1 = .ref [lst qe v_0.Brokers,lst qd v_0.Parts,
        .int .i64 v_0.Next] 0∧fr' 3 = .int .i64 (b6 v_0.Brokers:Int)∧fr' 67=lst qd v_0.Parts∧fr' 68 = .int .i64
        (b6 v_0.Parts:Int)∧fr' 69 = .int .i64 (i121:Int)∧fr' 128 = .bool ((decide (x122.Leader=(-1)))&&(decide (v258≠(-1))))∧fr' 132 = .bool
        (decide (x122.Leader≠(-1)))) (fun Q290 hN291=>?_) ?_
      ·simp only [d7,e9]
       simp only [qc (g:=139),B0,reduceIte,a7]
       refine qy (t:=(!v287)) (fun hg292=>?_) (fun hg292=>?_)
       ·rw [iteT hg292] at hx294
        simp only [hg292,qc (g:=139),zv,hg283,qc (g:=132),qw,qr,qb,zh,qa,qn,B0,reduceIte,
          a7]
        have e296:=qj hx294
        exact hN291 _ _ ⟨hS273,by rw [←e296]; simp only [B0,reduceIte,a7],f266,f267,f269,f270,f271,by simp only [hg276,B0,reduceIte,a7],
          by simp only [hg283,B0,reduceIte,a7]⟩
       ·rw [iteF hg292] at hx294
        simp only [hg292,qc (g:=139),qq,f266,qp,qb,a8,a9,b4,qs,qm,B0,reduceIte,
          a7]
        refine qi (v:=lst qe v_0.Brokers) rfl ?_
        simp only [hg292,qc (g:=139),qq,f268,qp,qb,a8,a9,b4,qs,qm,B0,reduceIte,
          a7]
        refine qi (v := .int .i64 x122.Leader) rfl ?_
        obtain ⟨x297,hx298,hF299⟩:=qk hx294
        simp only [hg292,qc (g:=139),qq,jf,B0,reduceIte,a7]
        refine qi (v := .ref (qe x297) 0) (uw hx298 rfl) ?_
        simp only [hg292,qc (g:=139),qq,qp,qb,a8,a9,b4,qs,qm,B0,reduceIte,a7]
        refine qi (v := .bool x297.Fenced) rfl ?_
        simp only [hg283,qc (g:=132),qw,hg292,qr,qb,zi,qa,qn,B0,reduceIte,a7]
        have e300:=qj hF299
        exact hN291 _ _ ⟨hS273,by rw [←e300]; simp only [B0,reduceIte,a7],f266,f267,f269,f270,f271,by simp only [hg276,B0,reduceIte,a7],
          by simp only [hg283,B0,reduceIte,a7]⟩
      rintro fr301 h310 ⟨hS311,f302,f303,f304,f305,f306,f307,f308,f309⟩
      simp only [b7,e8]
      simp only [f308,hg276,qc (g:=128),qq,f309,hg283,qr,qb,zh,f302,qa,qn,B0,reduceIte,a7]
      have e312:=qj hF295
      exact hN282 _ _ ⟨hS311,by rw [←e312]; simp only [B0,reduceIte,a7],f303,f304,f305,f306,f307,by simp only [f308,hg276,B0,reduceIte,a7]⟩
     ·rw [iteF hg283] at hx285
      simp only [hg283,qc (g:=132),zy,qc (g:=139),u4,hg276,qc (g:=128),qq,qr,qb,zi,
        qa,qn,B0,reduceIte,a7]
      have e313:=qj hx285
      exact hN282 _ _ ⟨hS273,by rw [←e313]; simp only [B0,reduceIte,a7],f266,f267,f269,f270,f271,by simp only [hg276,B0,reduceIte,a7]⟩
    rintro fr314 h322 ⟨hS323,f315,f316,f317,f318,f319,f320,f321⟩
    simp only [b7,e8]
    simp only [f321,hg276,qr,qb,zi,f315,qa,qn,B0,reduceIte,a7]
    have e324:=qj hF286
    exact hN275 _ _ ⟨hS323,by rw [←e324]; simp only [B0,reduceIte,a7],f316,f317,f318,f319,f320⟩
  rintro fr325 h332 ⟨hS333,f326,f327,f328,f329,f330,f331⟩
  simp only [b7,e8]
  simp only [qa,f326,qz,B0,reduceIte,a7]
  refine qx (t:=v277) (fun hc334=>?_) (fun hc334=>?_)
  ·rw [iteT hc334] at hF279
   simp only [qh,qf,qg,qa,q8,B0,reduceIte,a7]
   have e335:=qj hF279
   subst e335
   have ho336:=hr128 _ rfl
   have hk337:=hk126
   rw [ho336] at hk337
   dsimp only [jnO] at hk337
   apply hR132
   have he:=qj hk337
   subst he
   simp only [zg,B0,reduceIte,a7]
   exact rfl
  rw [iteF hc334] at hF279
  simp only [zf,qn,B0,reduceIte,a7]
  have e338:=qj hF279
  exact hN130 _ _ _ e338.symm ⟨f327,f328,f329,hS333⟩ (f331) (f330)
 rintro _ fr340 h341 rfl ⟨f343,f344,f345,hS342⟩
 dsimp only [jnO] at hk126
 unfold qgj at hk126
 simp only [qh,qf,qg,qa,q8,B0,reduceIte,a7]
 have he:=qj hk126
 subst he
 simp only [zg,B0,reduceIte,a7]
 exact rfl
theorem qi4 {W:Nat→Bool}{h:Heap} (hW:∀ b,
  (geL h.length) b→W b=true) (c_0:Control) (r:(List Int) × Bool) (hF:xa c_0=some r) : Ret E W 12 [.agg [lst qe c_0.Brokers,
  lst qd c_0.Parts,.int .i64 c_0.Next]] h (fun v h'=>cut h.length h' E.sz false 9 v=some (.tup [lst cI r.1,.bool r.2])):=by
 refine Ret.of (fn:=x12) rfl (Run.of ?_)
 unfold xa at hF
 have zf0:zj [.agg [lst qe c_0.Brokers,lst qd c_0.Parts,.int .i64 c_0.Next]] 0 = .agg [lst qe c_0.Brokers,lst qd c_0.Parts,
   .int .i64 c_0.Next]:=rfl
 generalize zj [.agg [lst qe c_0.Brokers,lst qd c_0.Parts,.int .i64 c_0.Next]]=fr0 at zf0 ⊢
 have hS:Sep h (geL h.length) []:=a0t h
 simp only [x12,qh,qf,jp,zf0,B0,reduceIte,a7]
 refine jc (cs:=[lst qe c_0.Brokers,lst qd c_0.Parts,.int .i64 c_0.Next]) hS rfl rfl rfl (fun b1 h2 hS3=>?_)
 simp only [qg,qa,B0,reduceIte,a7]
 refine zq hS3 hW (by simp only [B0,reduceIte,a7]) (fun h5 hS6=>?_)
 simp only [zp,qr5,qh,qf,qm,B0,reduceIte,a7]
 refine qi (v := .agg [lst qe c_0.Brokers,lst qd c_0.Parts,.int .i64 c_0.Next]) rfl ?_
 obtain ⟨v7,hx8,hF9⟩:=qk hF
 simp only [za,B0,reduceIte,a7]
 refine ja rfl (ql (z4 (ql zn (ql zn (ql qu zd)))) zd) (qa9 (fun b hb=>decide_eq_true hb) c_0 v7 hx8) ?_
 simp only [je,qb,jt,qa,q2m,qz,B0,reduceIte,a7]
 refine qx (t:=(!v7)) (fun hc10=>?_) (fun hc10=>?_)
 ·rw [iteT hc10] at hF9
  simp only [qh,qf,qg,qa,q8,B0,reduceIte,a7]
  have he:=qj hF9
  subst he
  simp only [ur,B0,reduceIte,a7]
  exact qcx (ql rfl (ql rfl zd))
 rw [iteF hc10] at hF9
 simp only [zf,q4q,qh,qf,j0,evp,B0,reduceIte,a7]
 refine ju (n:=1) (f:=cI) ([] : List Int) hS6 rfl rfl (fun v11 c12 h13 hv14 hS15=>?_)
 simp only [qg,qa,qzb,qh,qf,qp,qb,a8,a9,b4,qs,qm,B0,reduceIte,a7]
 refine qi (v:=lst qe c_0.Brokers) rfl ?_
 simp only [zx,qb,z1,qg,qa,B0,reduceIte,a7]
 obtain ⟨oc29,hX31,hk32⟩:=jo hF9
 simp only [q02]
 refine ku (σ:=(List Int)) c_0.Brokers (fun i27 x28 s75=>qbf i27 x28 s75) (fun s fr' h'=>∃ v24 c25,
   fr' 4=v24∧fr' 12=lst qe c_0.Brokers∧SlF cI 1 3 v24 s c25∧Sep h' (geL h.length) (c25++([]))) hX31 ⟨v11,c12,rfl,rfl,hv14,hS15⟩ (by simp only [B0,
   reduceIte,a7]) (by simp only [B0,reduceIte,
   a7]) (fun _ _ _ h=>h) rfl rfl (fun _ _ _ _ h=>h) (fun _ _ _ _ h=>h) (fun _ _ _ _ h=>h) (by decide) ?_ ?_
 ·rintro i27 x28 s22 fr41 h42 hx46 ⟨v24,c25,f44,f45,hv26,hS43⟩ f47 f48 oc30 hF33 hr34 Q35 hN36 hB40 hK37 hR38 hE39
  unfold qbf at hF33
  simp only [q3v,qh,qf,f47,qg,f45,jf,B0,reduceIte,a7]
  refine qi (v := .ref (qe x28) 0) (kt hx46 rfl) ?_
  simp only [qm,B0,reduceIte,a7]
  refine qi (v := .agg [.int .i64 x28.Epoch,.int .i64 x28.Left,.bool x28.Fenced]) rfl ?_
  simp only [z5,B0,reduceIte,a7]
  refine zt hS43 (fun b49 h50 hS51=>?_)
  simp only [qg,zk,B0,reduceIte,a7]
  refine zb (us:=[.int .i64 x28.Epoch,.int .i64 x28.Left,.bool x28.Fenced]) rfl (cs':=[.int .i64 x28.Epoch,.int .i64 x28.Left,
    .bool x28.Fenced]) hS51 hW rfl rfl (nle rfl) rfl (fun h53 hS54=>?_)
  simp only [qa,B0,reduceIte,a7]
  refine zq hS54 hW (by simp only [B0,reduceIte,a7]) (fun h55 hS56=>?_)
  simp only [zp,q6o,qh,qf,qp,qb,a8,a9,b4,qs,qm,B0,reduceIte,a7]
  refine qi (v := .bool x28.Fenced) rfl ?_
  simp only [je,qb,jt,qa,q27,qz,B0,reduceIte,a7]
  refine qx (t:=(!x28.Fenced)) (fun hc57=>?_) (fun hc57=>?_)
  ·rw [iteT hc57] at hF33
   simp only [q1i,qf,f44,qg,j0,evp,B0,reduceIte,a7]
   refine ju (n:=1) (f:=cI) [(i27:Int)] hS56 rfl rfl (fun v58 c59 h60 hv61 hS62=>?_)
   simp only [wz,B0,reduceIte,a7]
   obtain ⟨l64,hx65,hF66⟩:=qk hF33
   refine yx (f:=cI) hv26 (f8 hS62) hW (fun _=>rfl) (fun _=>rfl) (SlF.first hv61 hS62 (fun _=>rfl)) hx65 (fun v67 c68 h69 hv70 hS71=>?_)
   simp only [qg,qa,qn,B0,reduceIte,a7]
   have e73:=qj hF66
   exact hN36 _ _ _ e73.symm ⟨v67,c68,rfl,f45,hv70,(Sep.dc (f8 hS71))⟩ (f47) (f48)
  rw [iteF hc57] at hF33
  simp only [zf,qn,B0,reduceIte,a7]
  have e74:=qj hF33
  exact hN36 _ _ _ e74.symm ⟨v24,c25,f44,f45,hv26,hS56⟩ (f47) (f48)
 rintro s76 fr81 h82 rfl ⟨v78,c79,f84,f85,hv80,hS83⟩
 dsimp only [jnO] at hk32
 unfold qfb at hk32
 simp only [qh,qf,f84,qg,qa,q8,B0,reduceIte,a7]
 have he:=qj hk32
 subst he
 simp only [ur,B0,reduceIte,a7]
 exact qcx (ql (SlF.cut hv80 hS83 (fun _ hb=>hb) rfl (fun _=>rfl) (fun _=>rfl)) (ql rfl zd))
theorem qen {W:Nat→Bool}{h:Heap} (hW:∀ b,
  (geL h.length) b→W b=true) (c_0:Control) (broker_1:Int) (r:List Int)
  (hF:xg c_0 broker_1=some r) : Ret E W 51 [.agg [lst qe c_0.Brokers,lst qd c_0.Parts,.int .i64 c_0.Next],
  .int .i64 broker_1] h (fun v h'=>∃ rv0 rc0,v=rv0∧SlF cI 1 3 rv0 r rc0∧Sep h' (geL h.length) (rc0++([]))):=by
 refine Ret.of (fn:=x51) rfl (Run.of ?_)
 unfold xg at hF
 have zf0:zj [.agg [lst qe c_0.Brokers,lst qd c_0.Parts,.int .i64 c_0.Next],.int .i64 broker_1] 0 = .agg [lst qe c_0.Brokers,
   lst qd c_0.Parts,.int .i64 c_0.Next]:=rfl
 have zf1:zj [.agg [lst qe c_0.Brokers,lst qd c_0.Parts,.int .i64 c_0.Next],.int .i64 broker_1] 1 = .int .i64 broker_1:=rfl
 generalize zj [.agg [lst qe c_0.Brokers,lst qd c_0.Parts,.int .i64 c_0.Next],.int .i64 broker_1]=fr0 at zf0 zf1 ⊢
 have hS:Sep h (geL h.length) []:=a0t h
 simp only [x51,qh,qf,jp,zf0,B0,reduceIte,a7]
 refine jc (cs:=[lst qe c_0.Brokers,lst qd c_0.Parts,.int .i64 c_0.Next]) hS rfl rfl rfl (fun b1 h2 hS3=>?_)
 simp only [qg,qa,B0,reduceIte,a7]
 refine zq hS3 hW (by simp only [B0,reduceIte,a7]) (fun h5 hS6=>?_)
 simp only [zp,qzy,qh,qf,j0,evp,B0,reduceIte,a7]
 refine ju (n:=1) (f:=cI) ([] : List Int) hS6 rfl rfl (fun v7 c8 h9 hv10 hS11=>?_)
 simp only [qg,qa,qz7,qh,qf,qp,qb,a8,a9,b4,qs,qm,B0,reduceIte,a7]
 refine qi (v:=lst qd c_0.Parts) rfl ?_
 simp only [zx,qb,z1,qg,qa,B0,reduceIte,a7]
 obtain ⟨oc25,hX27,hk28⟩:=jo hF
 simp only [q4z]
 refine ku (σ:=(List Int)) c_0.Parts (fun i23 x24 s72=>qaj broker_1 i23 x24 s72) (fun s fr' h'=>∃ v20 c21,
   fr' 1 = .int .i64 broker_1∧fr' 5=v20∧fr' 10=lst qd c_0.Parts∧SlF cI 1 3 v20 s c21∧Sep h' (geL h.length) (c21++([]))) hX27 ⟨v7,c8,zf1,rfl,rfl,
   hv10,hS11⟩ (by simp only [B0,reduceIte,a7]) (by simp only [B0,reduceIte,
   a7]) (fun _ _ _ h=>h) rfl rfl (fun _ _ _ _ h=>h) (fun _ _ _ _ h=>h) (fun _ _ _ _ h=>h) (by decide) ?_ ?_
 ·rintro i23 x24 s18 fr37 h38 hx43 ⟨v20,c21,f40,f41,f42,hv22,hS39⟩ f44 f45 oc26 hF29 hr30 Q31 hN32 hB36 hK33 hR34 hE35
  unfold qaj at hF29
  simp only [q4w,qh,qf,f44,qg,f42,jf,B0,reduceIte,a7]
  refine qi (v := .ref (qd x24) 0) (kt hx43 rfl) ?_
  simp only [qm,B0,reduceIte,a7]
  refine qi (v := .agg [lst cI x24.Homes,lst cI x24.InStep,.int .i64 x24.Leader,.int .i64 x24.Epoch,.int .i64 x24.Stamp]) rfl ?_
  simp only [z5,B0,reduceIte,a7]
  refine zt hS39 (fun b46 h47 hS48=>?_)
  simp only [qg,zk,B0,reduceIte,a7]
  refine zb (us:=[lst cI x24.Homes,lst cI x24.InStep,.int .i64 x24.Leader,.int .i64 x24.Epoch,.int .i64 x24.Stamp]) rfl (cs':=[lst cI x24.Homes,
    lst cI x24.InStep,.int .i64 x24.Leader,.int .i64 x24.Epoch,.int .i64 x24.Stamp]) hS48 hW rfl rfl (nle rfl) rfl (fun h50 hS51=>?_)
  simp only [qa,B0,reduceIte,a7]
  refine zq hS51 hW (by simp only [B0,reduceIte,a7]) (fun h52 hS53=>?_)
  simp only [zp,q4t,qh,qf,qp,qb,a8,a9,b4,qs,qm,B0,reduceIte,a7]
  refine qi (v := .int .i64 x24.Leader) rfl ?_
  simp only [f40,qg,qv,qb,z8,qa,q07,qz,B0,reduceIte,a7]
  refine qx (t:=(decide (x24.Leader=broker_1))) (fun hc54=>?_) (fun hc54=>?_)
  ·rw [iteT hc54] at hF29
   simp only [qz3,qf,f41,qg,j0,evp,B0,reduceIte,a7]
   refine ju (n:=1) (f:=cI) [(i23:Int)] hS53 rfl rfl (fun v55 c56 h57 hv58 hS59=>?_)
   simp only [wz,B0,reduceIte,a7]
   obtain ⟨l61,hx62,hF63⟩:=qk hF29
   refine yx (f:=cI) hv22 (f8 hS59) hW (fun _=>rfl) (fun _=>rfl) (SlF.first hv58 hS59 (fun _=>rfl)) hx62 (fun v64 c65 h66 hv67 hS68=>?_)
   simp only [qg,qa,qn,B0,reduceIte,a7]
   have e70:=qj hF63
   exact hN32 _ _ _ e70.symm ⟨v64,c65,f40,rfl,f42,hv67,(Sep.dc (f8 hS68))⟩ (f44) (f45)
  rw [iteF hc54] at hF29
  simp only [zf,qn,B0,reduceIte,a7]
  have e71:=qj hF29
  exact hN32 _ _ _ e71.symm ⟨v20,c21,f40,f41,f42,hv22,hS53⟩ (f44) (f45)
 rintro s73 fr78 h79 rfl ⟨v75,c76,f81,f82,f83,hv77,hS80⟩
 dsimp only [jnO] at hk28
 unfold qef at hk28
 simp only [qh,qf,f82,qg,qa,q8,B0,reduceIte,a7]
 have he:=qj hk28
 subst he
 simp only [zg,B0,reduceIte,a7]
 exact ⟨v75,c76,by first | trivial | rfl,hv77,hS80⟩
theorem qi0 {W:Nat→Bool}{h:Heap} (hW:∀ b,
  (geL h.length) b→W b=true) (c_0:Control) (r:(List Int) × Bool) (hF:wv c_0=some r) : Ret E W 13 [.agg [lst qe c_0.Brokers,
  lst qd c_0.Parts,.int .i64 c_0.Next]] h (fun v h'=>∃ rv0 rc0,v = .tup [rv0,.bool r.2]∧SlF cI 1 3 rv0 r.1 rc0∧Sep h' (geL h.length) (rc0++([]))):=by
 refine Ret.of (fn:=x13) rfl (Run.of ?_)
 unfold wv at hF
 have zf0:zj [.agg [lst qe c_0.Brokers,lst qd c_0.Parts,.int .i64 c_0.Next]] 0 = .agg [lst qe c_0.Brokers,lst qd c_0.Parts,
   .int .i64 c_0.Next]:=rfl
 generalize zj [.agg [lst qe c_0.Brokers,lst qd c_0.Parts,.int .i64 c_0.Next]]=fr0 at zf0 ⊢
 have hS:Sep h (geL h.length) []:=a0t h
 simp only [x13,qh,qf,jp,zf0,B0,reduceIte,a7]
 refine jc (cs:=[lst qe c_0.Brokers,lst qd c_0.Parts,.int .i64 c_0.Next]) hS rfl rfl rfl (fun b1 h2 hS3=>?_)
 simp only [qg,qa,B0,reduceIte,a7]
 refine zq hS3 hW (by simp only [B0,reduceIte,a7]) (fun h5 hS6=>?_)
 simp only [zp,q2h,qh,qf,qm,B0,reduceIte,a7]
 refine qi (v := .agg [lst qe c_0.Brokers,lst qd c_0.Parts,.int .i64 c_0.Next]) rfl ?_
 obtain ⟨v7,hx8,hF9⟩:=qk hF
 simp only [za,B0,reduceIte,a7]
 refine ja rfl (ql (z4 (ql zn (ql zn (ql qu zd)))) zd) (qa9 (fun b hb=>decide_eq_true hb) c_0 v7 hx8) ?_
 simp only [je,qb,jt,qa,q0h,qz,B0,reduceIte,a7]
 refine qx (t:=(!v7)) (fun hc10=>?_) (fun hc10=>?_)
 ·rw [iteT hc10] at hF9
  simp only [qh,qf,qg,qa,q8,B0,reduceIte,a7]
  have he:=qj hF9
  subst he
  simp only [ur,B0,reduceIte,a7]
  exact ⟨.nil,[],by first | trivial | rfl,SlF.nil,(hS6:Sep _ (geL h.length) ([]))⟩
 rw [iteF hc10] at hF9
 simp only [zf,q3d,qh,qf,qm,B0,reduceIte,a7]
 refine qi (v := .agg [lst qe c_0.Brokers,lst qd c_0.Parts,.int .i64 c_0.Next]) rfl ?_
 obtain ⟨v11,hx12,hF13⟩:=qk hF9
 simp only [za,B0,reduceIte,a7]
 refine wq rfl hS6 (ql (z4 (ql zn (ql zn (ql qu zd)))) (ql qu zd)) (qen
   (fun b hb=>decide_eq_true hb) c_0 (-1) v11 hx12) ?_
 rintro v14 h18 ⟨_,c15,rfl,hv16,hS19⟩
 refine ⟨_,qt0 (a0k hv16),hS19,(jg (a1n hv16 (fun _=>rfl)) ye),fun h20 hS21=>?_⟩
 have hS22:Sep h20 (geL h.length) (c15++([])):=by simpa only [f6,List.nil_append] using hS21
 simp only [qg,qa,q8,B0,reduceIte,a7]
 have he:=qj hF13
 subst he
 simp only [ur,B0,reduceIte,a7]
 exact ⟨v14,c15,by first | trivial | rfl,hv16,hS22⟩
end Go.Proofs.Ytjloihcijdcpeaa.X
