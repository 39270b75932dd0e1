/- The functions' code comes to what the plain functions say (2). -/
import Derived.Test.YtohofoampalhoaaXGH1
open List renaming append_assoc→l5,drop_succ_cons→i0,drop_zero→i6,length→f0,nil_append→r7,take_succ_cons→f4,take_zero→i7
open Nat renaming add_zero→e8,reduceAdd→d8,reduceEqDiff→a9,zero_add→d9
open Go.Proofs.Ytohofoampalhoaa.X.Sep renaming bk→o9,dc→o8,m1→n7,m2→l9,m6→s9,nil→a0k
open Go.Proofs.Ytohofoampalhoaa.X.SlF renaming free1→a0n,nil→a2z,one→l7,pf→a1j
open Go.Proofs.Ytohofoampalhoaa.X.SlN renaming one→a09
set_option linter.unusedVariables false
set_option linter.unusedSimpArgs false
set_option maxRecDepth 100000
namespace Go.Proofs.Ytohofoampalhoaa.X
open Go
theorem qn7 {W:Nat→Bool}{h:Heap} (hW:∀ b,
  (geL h.length) b→W b=true) (k:Nat) (a_0:Node) (r:Node) (hF:qdx k a_0=some r) : Ret E W 76 [.agg [.int .i64 a_0.View.Epoch,.int .i64 a_0.View.Leader,
  lst cI a_0.View.InStep,lst qg a_0.Log,lst cI a_0.Known,.int .i64 a_0.Told]] h (fun v h'=>∃ rv0_2 rc0_2 rv0_3 rc0_3 rv0_4 rc0_4,v = .agg [.int .i64 r.View.Epoch,
  .int .i64 r.View.Leader,rv0_2,rv0_3,rv0_4,
  .int .i64 r.Told]∧SlF cI 1 3 rv0_2 r.View.InStep rc0_2∧SlF qg 2 92 rv0_3 r.Log rc0_3∧SlF cI 1 3 rv0_4 r.Known rc0_4∧Sep h' (geL h.length) (rc0_2++(rc0_3 ++
  (rc0_4++([]))))):=by
 refine Ret.of (fn:=x76) rfl (Run.of ?_)
 unfold qdx at hF
 have zf0:zb [.agg [.int .i64 a_0.View.Epoch,.int .i64 a_0.View.Leader,lst cI a_0.View.InStep,lst qg a_0.Log,lst cI a_0.Known,
   .int .i64 a_0.Told]] 0 = .agg [.int .i64 a_0.View.Epoch,.int .i64 a_0.View.Leader,lst cI a_0.View.InStep,lst qg a_0.Log,lst cI a_0.Known,
   .int .i64 a_0.Told]:=rfl
 generalize zb [.agg [.int .i64 a_0.View.Epoch,.int .i64 a_0.View.Leader,lst cI a_0.View.InStep,lst qg a_0.Log,lst cI a_0.Known,.int .i64 a_0.Told]]=fr0 at zf0 ⊢
 have hS:Sep h (geL h.length) []:=a0k h
 simp only [x76,qc,qd,jp,zf0,B0,reduceIte,a9]
 refine je (cs:=[.int .i64 a_0.View.Epoch,.int .i64 a_0.View.Leader,lst cI a_0.View.InStep,lst qg a_0.Log,lst cI a_0.Known,
   .int .i64 a_0.Told]) hS rfl rfl rfl (fun b1 h2 hS3=>?_)
 simp only [kd,B0,reduceIte,a9]
 refine jt hS3 (fun b5 h6 hS7=>?_)
 simp only [qa,B0,reduceIte,a9]
 refine zx (n7 hS7) hW (by simp only [B0,reduceIte,a9]) (fun h9 hS10=>?_)
 simp only [zw,q33,qc,qd,kd,B0,reduceIte,a9]
 refine jt hS10 (fun b11 h12 hS13=>?_)
 simp only [qa,qyv,qc,qd,qt,qb,d8,d9,e8,qs,qn,B0,reduceIte,a9]
 refine qh (v := .agg [.int .i64 a_0.View.Epoch,.int .i64 a_0.View.Leader,lst cI a_0.View.InStep]) rfl ?_
 obtain ⟨v15,hx16,hF17⟩:=qk hF
 simp only [zg,B0,reduceIte,a9]
 refine qb1 rfl hS13 (qi (zv (qi qo (qi qo (qi zk zc)))) zc) (qjb (fun b hb=>decide_eq_true hb) k a_0.View v15 hx16) ?_
 rintro _ h22 ⟨v18,c19,rfl,hv20,hS23⟩
 refine ⟨_,uz (qm rfl (qm rfl (qm (a0n hv20) zq))),hS23,(jz (a1j hv20 (fun _=>rfl)) yu),fun h24 hS25=>?_⟩
 have hS26:Sep h24 (geL h.length) (c19++([Blk1 b11 [.int .i64 0,.int .i64 0,.nil,.nil,.nil,.int .i64 0] 68]++([Blk1 b5 [.int .i64 0,.int .i64 0,.nil,.nil,.nil,
   .int .i64 0] 68]++([])))):=by simpa only [l5,r7] using hS25
 simp only [qt,qb,d8,d9,e8,zd,zp,B0,reduceIte,a9]
 refine zm (us:=[.int .i64 v15.Epoch,.int .i64 v15.Leader,v18]) rfl (cs':=[.int .i64 v15.Epoch,.int .i64 v15.Leader,v18,.nil,.nil,
   .int .i64 0]) (n7 hS26) hW rfl (qm rfl (qm rfl (qm (l7 hv20) zq))) (nle rfl) rfl (fun h27 hS28=>?_)
 simp only [qa,q16,qc,qd,qt,qb,d8,d9,e8,qs,qn,B0,reduceIte,a9]
 refine qh (v:=lst qg a_0.Log) rfl ?_
 obtain ⟨v29,hx30,hF31⟩:=qk hF17
 simp only [zg,B0,reduceIte,a9]
 refine qb1 rfl hS28 (qi zk zc) (qjm (fun b hb=>decide_eq_true hb) k a_0.Log v29 hx30) ?_
 rintro v32 h36 ⟨_,c33,rfl,hv34,hS37⟩
 refine ⟨_,qkd (a0n hv34),hS37,(jz (a1j hv34 (fun _=>rfl)) yu),fun h38 hS39=>?_⟩
 have hS40:Sep h38 (geL h.length) (c33++([Blk1 b11 [.int .i64 v15.Epoch,.int .i64 v15.Leader,v18,.nil,.nil,.int .i64 0] 68]++(c19++([Blk1 b5 [.int .i64 0,
   .int .i64 0,.nil,.nil,.nil,.int .i64 0] 68]++([]))))):=by simpa only [l5,r7] using hS39
 simp only [qt,qb,d8,d9,e8,zd,zp,B0,reduceIte,a9]
 refine zm (us:=[v32]) (kg (l7 hv34)) (cs':=[.int .i64 v15.Epoch,.int .i64 v15.Leader,v18,v32,.nil,
   .int .i64 0]) (n7 hS40) hW rfl (qm (l7 hv34) zq) (nle rfl) rfl (fun h41 hS42=>?_)
 simp only [qa,q4i,qc,qd,qt,qb,d8,d9,e8,qs,qn,B0,reduceIte,a9]
 refine qh (v:=lst cI a_0.Known) rfl ?_
 obtain ⟨v43,hx44,hF45⟩:=qk hF31
 simp only [zg,B0,reduceIte,a9]
 refine qb1 rfl hS42 (qi zk zc) (qja (fun b hb=>decide_eq_true hb) k a_0.Known v43 hx44) ?_
 rintro v46 h50 ⟨_,c47,rfl,hv48,hS51⟩
 refine ⟨_,qkd (a0n hv48),hS51,(jz (a1j hv48 (fun _=>rfl)) yu),fun h52 hS53=>?_⟩
 have hS54:Sep h52 (geL h.length) (c47++([Blk1 b11 [.int .i64 v15.Epoch,.int .i64 v15.Leader,v18,v32,.nil,.int .i64 0] 68]++(c33++(c19++([Blk1 b5 [.int .i64 0,
   .int .i64 0,.nil,.nil,.nil,.int .i64 0] 68]++([])))))):=by simpa only [l5,r7] using hS53
 simp only [qt,qb,d8,d9,e8,zd,zp,B0,reduceIte,a9]
 refine zm (us:=[v46]) (kg (l7 hv48)) (cs':=[.int .i64 v15.Epoch,.int .i64 v15.Leader,v18,v32,v46,
   .int .i64 0]) (n7 hS54) hW rfl (qm (l7 hv48) zq) (nle rfl) rfl (fun h55 hS56=>?_)
 simp only [qa,q6s,qc,qd,qt,qb,d8,d9,e8,qs,qn,B0,reduceIte,a9]
 refine qh (v := .int .i64 a_0.Told) rfl ?_
 simp only [qt,qb,d8,d9,e8,zd,zp,B0,reduceIte,a9]
 refine zm (us:=[.int .i64 a_0.Told]) rfl (cs':=[.int .i64 v15.Epoch,.int .i64 v15.Leader,v18,v32,v46,
   .int .i64 a_0.Told]) hS56 hW rfl rfl (nle rfl) rfl (fun h57 hS58=>?_)
 simp only [qa,qc,qd,qn,B0,reduceIte,a9]
 refine qh (v := .agg [.int .i64 v15.Epoch,.int .i64 v15.Leader,v18,v32,v46,.int .i64 a_0.Told]) ((zu (o9 _ _ _ hS58)).trans rfl) ?_
 simp only [zp,B0,reduceIte,a9]
 refine zm (us:=[.int .i64 v15.Epoch,.int .i64 v15.Leader,v18,v32,v46,.int .i64 a_0.Told]) rfl (cs':=[.int .i64 v15.Epoch,.int .i64 v15.Leader,v18,v32,v46,
   .int .i64 a_0.Told]) (Sep.m4 hS58) hW rfl (qm rfl (qm rfl (qm (l7 hv20) (qm (l7 hv34) (qm (l7 hv48) (qm rfl zq)))))) (nle rfl) rfl
   (fun h59 hS60=>?_)
 simp only [qa,qx,B0,reduceIte,a9]
 have he:=qj hF45
 subst he
 refine yo (bb:=b5) (oo:=0) (v := .agg [.int .i64 v15.Epoch,.int .i64 v15.Leader,v18,v32,v46,.int .i64 a_0.Told]) (by simp only [B0,reduceIte,
   a9]) ((zu (o9 _ _ _ hS60)).trans rfl) ?_
 exact ⟨v18,c19,v32,c33,v46,c47,by first | trivial | rfl,hv20,hv34,hv48,(l9 (n7 (o8 ((o8 (hS60))))))⟩
theorem qmq {W:Nat→Bool}{h:Heap} (hW:∀ b,
  (geL h.length) b→W b=true) (k:Nat) (a_0:List Node) (r:List Node) (hF:qc3 k a_0=some r) : Ret E W 57 [lst qq a_0] h (fun v h'=>∃ rv0 rc0,
  v=rv0∧SlN Node.R 6 68 rv0 r rc0∧Sep h' (geL h.length) (rc0++([]))):=by
 refine Ret.of (fn:=x57) rfl (Run.of ?_)
 unfold qc3 at hF
 have zf0:zb [lst qq a_0] 0=lst qq a_0:=rfl
 generalize zb [lst qq a_0]=fr0 at zf0 ⊢
 have hS:Sep h (geL h.length) []:=a0k h
 obtain ⟨l1,hx2,hF3⟩:=qk hF
 simp only [x57,qc,qd,qf,qa,qyz,zf0,zy,qb,jd,qid,B0,reduceIte,a9]
 refine qsx (R:=Node.R) (e:=(Node.mk (View.mk (0:Int) (0:Int) []) [] [] (0:Int))) (z:=[.int .i64 0,.int .i64 0,.nil,.nil,.nil,
   .int .i64 0]) hS hx2 (Node.RI (x:=(Node.mk (View.mk 0 0 []) [] [] 0)) a2z a2z a2z) rfl (fun v4 c5 h6 hv7 hS8=>?_)
 simp only [qf,qa,q3a,qc,qd,B0,reduceIte,a9]
 obtain ⟨oc20,hX22,hk23⟩:=ka hF3
 simp only [q7j]
 refine w5 (σ:=Int × (List Node)) (fun s98=>qa9 k a_0 s98.1 s98.2) (fun s fr' h'=>∃ c16,
   fr' 0=lst qq a_0∧fr' 3=v4∧fr' 4 = .int .i64 s.1∧SlN Node.R 6 68 v4 s.2 c16∧Sep h' (geL h.length) (c16++([]))) hX22 ⟨c5,zf0,rfl,rfl,hv7,
   hS8⟩ (fun _ _ _ h=>h) ?_ ?_
 ·rintro ⟨s14,s15⟩ fr32 h33 ⟨c16,f35,f36,f37,hv17,hS34⟩ oc21 hF24 hr25 Q26 hN27 hK28 hR29 hE30
  dsimp only at *
  unfold qa9 at hF24
  simp only [q0c,qc,qd,f37,qf,f35,zy,qb,jd,qz,kq,qa,q9,B0,reduceIte,a9]
  refine qy (t:=(decide (s14<(f0 a_0:Int)))) (fun hc39=>?_) (fun hc39=>?_)
  ·rw [iteT hc39] at hF24
   obtain ⟨x40,hx41,hF42⟩:=qk hF24
   simp only [zh,q0w,qc,kz,q6i,qd,f36,qf,f37,f35,jl,B0,reduceIte,a9]
   refine qh (v := .ref (qq x40) 0) (kx hx41 rfl) ?_
   simp only [qn,B0,reduceIte,a9]
   refine qh (v := .agg [.int .i64 x40.View.Epoch,.int .i64 x40.View.Leader,lst cI x40.View.InStep,lst qg x40.Log,lst cI x40.Known,.int .i64 x40.Told]) rfl ?_
   obtain ⟨v43,hx44,hF45⟩:=qk hF42
   simp only [zg,B0,reduceIte,a9]
   refine qb1 rfl hS34 (qi (zv (qi qo (qi qo (qi zk (qi zk (qi zk (qi qo zc))))))) zc) (qn7
     (fun b hb=>decide_eq_true hb) k x40 v43 hx44) ?_
   rintro _ h58 ⟨v46,c47,v50,c51,v54,c55,rfl,hv48,hv52,hv56,hS59⟩
   refine ⟨_,uz (qm rfl (qm rfl (qm (a0n hv48) (qm (a0n hv52) (qm (a0n hv56) (qm rfl zq)))))),hS59,
     (jz (a1j hv48 (fun _=>rfl)) (jz (a1j hv52 (fun _=>rfl)) (jz (a1j hv56 (fun _=>rfl)) yu))),fun h60 hS61=>?_⟩
   have hS62:Sep h60 (geL h.length) (c47++(c51++(c55++(c16++([]))))):=by simpa only [l5,r7] using hS61
   obtain ⟨x63,hx64,hF65⟩:=qk hF45
   simp only [jl,B0,reduceIte,a9]
   obtain ⟨b66,hb67⟩:=SlN.isrow hv17 (j9 hx64)
   refine qh (SlN.ia hv17 hb67 hx64) ?_
   obtain ⟨c70,cs71,os72,hv73,hR74,hS75⟩:=SlG.opn (SlN.toG hv17 hb67 Node.RO.len) hx64 z8 Node.RO.len (Sep.m3 hS62)
   obtain ⟨v77,c78,v81,c82,v85,c86,hv79,hv83,hv87,rfl,rfl⟩:=hR74
   have hS76:=Sep.no3 hS75
   simp only [zp,B0,reduceIte,a9]
   refine wb (n:=6) (us:=[.int .i64 v43.View.Epoch,.int .i64 v43.View.Leader,v46,v50,v54,.int .i64 v43.Told]) (cs:=[.int .i64 x63.View.Epoch,
     .int .i64 x63.View.Leader,v77,v81,v85,.int .i64 x63.Told]) (o:=0) (cs':=[.int .i64 v43.View.Epoch,.int .i64 v43.View.Leader,v46,v50,v54,
     .int .i64 v43.Told]) rfl hv73 rfl hx64 hS76 hW rfl (qm rfl (qm rfl (qm (l7 hv48) (qm (l7 hv52) (qm (l7 hv56) (qm rfl zq))))))
     (nle rfl) rfl (fun c89 h68 hv90 hS69=>?_)
   simp only [qa,yl,qd,f37,qf,qz,qb,wn,qp,B0,reduceIte,a9]
   obtain ⟨c91,hv92,hS93⟩:=SlG.cls (e':=v43) (c:=c89) (os:=c47++(c51++(c55))) hv90 rfl hx64 z8 (Node.RI (x:=v43) hv48 hv52 hv56) (Sep.ni3 (c1:=c47)
     (c2:=c51) (c3:=c55) (Sep.m3 (s9 (s9 (s9 hS69)))))
   have hx94:=kj (x':=v43) hx64
   have hv95:=SlG.toN hv92
   have e96:=qj hF65
   exact hN27 _ _ _ e96.symm ⟨c91,f35,f36,rfl,hv95,(o8 (n7 (o8 (n7 (o8 (n7 hS93))))))⟩
  rw [iteF hc39] at hF24
  simp only [yy,yn,wh,B0,reduceIte,a9]
  have e97:=qj hF24
  exact hK28 _ _ _ e97.symm ⟨c16,f35,f36,f37,hv17,hS34⟩
 rintro ⟨s99,s100⟩ fr103 h104 rfl ⟨c101,f106,f107,f108,hv102,hS105⟩
 dsimp only [jnO] at hk23
 dsimp only at *
 unfold qhi at hk23
 simp only [qc,qd,f107,qf,qa,qx,B0,reduceIte,a9]
 have he:=qj hk23
 subst he
 simp only [q8,B0,reduceIte,a9]
 exact ⟨v4,c101,by first | trivial | rfl,hv102,hS105⟩
theorem qb7 {W:Nat→Bool}{h:Heap} (hW:∀ b,
  (geL h.length) b→W b=true) (k:Nat) (a_0:Cluster) (r:Cluster) (hF:w6 k a_0=some r) : Ret E W 16 [.agg [.int .i64 a_0.Truth.Epoch,
  .int .i64 a_0.Truth.Leader,lst cI a_0.Truth.InStep,lst qq a_0.Nodes,lst qg a_0.Acked]] h (fun v h'=>∃ rv0_2 rc0_2 rv0_3 rc0_3 rv0_4 rc0_4,
  v = .agg [.int .i64 r.Truth.Epoch,.int .i64 r.Truth.Leader,rv0_2,rv0_3,
  rv0_4]∧SlF cI 1 3 rv0_2 r.Truth.InStep rc0_2∧SlN Node.R 6 68 rv0_3 r.Nodes rc0_3∧SlF qg 2 92 rv0_4 r.Acked rc0_4∧Sep h' (geL h.length) (rc0_2++(rc0_3 ++
  (rc0_4++([]))))):=by
 refine Ret.of (fn:=x16) rfl (Run.of ?_)
 unfold w6 at hF
 have zf0:zb [.agg [.int .i64 a_0.Truth.Epoch,.int .i64 a_0.Truth.Leader,lst cI a_0.Truth.InStep,lst qq a_0.Nodes,
   lst qg a_0.Acked]] 0 = .agg [.int .i64 a_0.Truth.Epoch,.int .i64 a_0.Truth.Leader,lst cI a_0.Truth.InStep,lst qq a_0.Nodes,lst qg a_0.Acked]:=rfl
 generalize zb [.agg [.int .i64 a_0.Truth.Epoch,.int .i64 a_0.Truth.Leader,lst cI a_0.Truth.InStep,lst qq a_0.Nodes,lst qg a_0.Acked]]=fr0 at zf0 ⊢
 have hS:Sep h (geL h.length) []:=a0k h
 simp only [x16,qc,qd,jp,zf0,B0,reduceIte,a9]
 refine je (cs:=[.int .i64 a_0.Truth.Epoch,.int .i64 a_0.Truth.Leader,lst cI a_0.Truth.InStep,lst qq a_0.Nodes,
   lst qg a_0.Acked]) hS rfl rfl rfl (fun b1 h2 hS3=>?_)
 simp only [kd,B0,reduceIte,a9]
 refine jt hS3 (fun b5 h6 hS7=>?_)
 simp only [qa,B0,reduceIte,a9]
 refine zx (n7 hS7) hW (by simp only [B0,reduceIte,a9]) (fun h9 hS10=>?_)
 simp only [zw,q5u,qc,qd,kd,B0,reduceIte,a9]
 refine jt hS10 (fun b11 h12 hS13=>?_)
 simp only [qa,q11,qc,qd,qt,qb,d8,d9,e8,qs,qn,B0,reduceIte,a9]
 refine qh (v := .agg [.int .i64 a_0.Truth.Epoch,.int .i64 a_0.Truth.Leader,lst cI a_0.Truth.InStep]) rfl ?_
 obtain ⟨v15,hx16,hF17⟩:=qk hF
 simp only [zg,B0,reduceIte,a9]
 refine qb1 rfl hS13 (qi (zv (qi qo (qi qo (qi zk zc)))) zc) (qjb (fun b hb=>decide_eq_true hb) k a_0.Truth v15 hx16) ?_
 rintro _ h22 ⟨v18,c19,rfl,hv20,hS23⟩
 refine ⟨_,uz (qm rfl (qm rfl (qm (a0n hv20) zq))),hS23,(jz (a1j hv20 (fun _=>rfl)) yu),fun h24 hS25=>?_⟩
 have hS26:Sep h24 (geL h.length) (c19++([Blk1 b11 [.int .i64 0,.int .i64 0,.nil,.nil,.nil] 28]++([Blk1 b5 [.int .i64 0,.int .i64 0,.nil,.nil,
   .nil] 28]++([])))):=by simpa only [l5,r7] using hS25
 simp only [qt,qb,d8,d9,e8,zd,zp,B0,reduceIte,a9]
 refine zm (us:=[.int .i64 v15.Epoch,.int .i64 v15.Leader,v18]) rfl (cs':=[.int .i64 v15.Epoch,.int .i64 v15.Leader,v18,.nil,
   .nil]) (n7 hS26) hW rfl (qm rfl (qm rfl (qm (l7 hv20) zq))) (nle rfl) rfl (fun h27 hS28=>?_)
 simp only [qa,q0s,qc,qd,qt,qb,d8,d9,e8,qs,qn,B0,reduceIte,a9]
 refine qh (v:=lst qq a_0.Nodes) rfl ?_
 obtain ⟨v29,hx30,hF31⟩:=qk hF17
 simp only [zg,B0,reduceIte,a9]
 refine qb1 rfl hS28 (qi zk zc) (qmq (fun b hb=>decide_eq_true hb) k a_0.Nodes v29 hx30) ?_
 rintro v32 h36 ⟨_,c33,rfl,hv34,hS37⟩
 refine ⟨_,qkd (SlN.free1 hv34),hS37,(jz (SlN.pf hv34 Node.RO) yu),fun h38 hS39=>?_⟩
 have hS40:Sep h38 (geL h.length) (c33++([Blk1 b11 [.int .i64 v15.Epoch,.int .i64 v15.Leader,v18,.nil,.nil] 28]++(c19++([Blk1 b5 [.int .i64 0,.int .i64 0,.nil,
   .nil,.nil] 28]++([]))))):=by simpa only [l5,r7] using hS39
 simp only [qt,qb,d8,d9,e8,zd,zp,B0,reduceIte,a9]
 refine zm (us:=[v32]) (kg (a09 hv34)) (cs':=[.int .i64 v15.Epoch,.int .i64 v15.Leader,v18,v32,
   .nil]) (n7 hS40) hW rfl (qm (a09 hv34) zq) (nle rfl) rfl (fun h41 hS42=>?_)
 simp only [qa,qzk,qc,qd,qt,qb,d8,d9,e8,qs,qn,B0,reduceIte,a9]
 refine qh (v:=lst qg a_0.Acked) rfl ?_
 obtain ⟨v43,hx44,hF45⟩:=qk hF31
 simp only [zg,B0,reduceIte,a9]
 refine qb1 rfl hS42 (qi zk zc) (qjm (fun b hb=>decide_eq_true hb) k a_0.Acked v43 hx44) ?_
 rintro v46 h50 ⟨_,c47,rfl,hv48,hS51⟩
 refine ⟨_,qkd (a0n hv48),hS51,(jz (a1j hv48 (fun _=>rfl)) yu),fun h52 hS53=>?_⟩
 have hS54:Sep h52 (geL h.length) (c47++([Blk1 b11 [.int .i64 v15.Epoch,.int .i64 v15.Leader,v18,v32,.nil] 28]++(c33++(c19++([Blk1 b5 [.int .i64 0,.int .i64 0,
   .nil,.nil,.nil] 28]++([])))))):=by simpa only [l5,r7] using hS53
 simp only [qt,qb,d8,d9,e8,zd,zp,B0,reduceIte,a9]
 refine zm (us:=[v46]) (kg (l7 hv48)) (cs':=[.int .i64 v15.Epoch,.int .i64 v15.Leader,v18,v32,
   v46]) (n7 hS54) hW rfl (qm (l7 hv48) zq) (nle rfl) rfl (fun h55 hS56=>?_)
 simp only [qa,qc,qd,qn,B0,reduceIte,a9]
 refine qh (v := .agg [.int .i64 v15.Epoch,.int .i64 v15.Leader,v18,v32,v46]) ((zu (o9 _ _ _ hS56)).trans rfl) ?_
 simp only [zp,B0,reduceIte,a9]
 refine zm (us:=[.int .i64 v15.Epoch,.int .i64 v15.Leader,v18,v32,v46]) rfl (cs':=[.int .i64 v15.Epoch,.int .i64 v15.Leader,v18,v32,
   v46]) (Sep.m4 hS56) hW rfl (qm rfl (qm rfl (qm (l7 hv20) (qm (a09 hv34) (qm (l7 hv48) zq))))) (nle rfl) rfl (fun h57 hS58=>?_)
 simp only [qa,qx,B0,reduceIte,a9]
 have he:=qj hF45
 subst he
 refine yo (bb:=b5) (oo:=0) (v := .agg [.int .i64 v15.Epoch,.int .i64 v15.Leader,v18,v32,v46]) (by simp only [B0,reduceIte,
   a9]) ((zu (o9 _ _ _ hS58)).trans rfl) ?_
 exact ⟨v18,c19,v32,c33,v46,c47,by first | trivial | rfl,hv20,hv34,hv48,(l9 (n7 (o8 ((o8 (hS58))))))⟩
theorem qbi {W:Nat→Bool}{h:Heap} (hW:∀ b,
  (geL h.length) b→W b=true) (n_0:Int) (lo_1:Int) (hi_2:Int) (r:Bool) (hF:some (ju n_0 lo_1 hi_2)=some r) : Ret E W 37 [.int .i64 n_0,.int .i64 lo_1,
  .int .i64 hi_2] h (fun v h'=>cut h.length h' E.sz false 9 v=some (.bool r)):=by
 refine Ret.of (fn:=x37) rfl (Run.of ?_)
 unfold ju at hF
 have zf0:zb [.int .i64 n_0,.int .i64 lo_1,.int .i64 hi_2] 0 = .int .i64 n_0:=rfl
 have zf1:zb [.int .i64 n_0,.int .i64 lo_1,.int .i64 hi_2] 1 = .int .i64 lo_1:=rfl
 have zf2:zb [.int .i64 n_0,.int .i64 lo_1,.int .i64 hi_2] 2 = .int .i64 hi_2:=rfl
 generalize zb [.int .i64 n_0,.int .i64 lo_1,.int .i64 hi_2]=fr0 at zf0 zf1 zf2 ⊢
 have hS:Sep h (geL h.length) []:=a0k h
 simp only [x37,qc,qd,qf,qa,q79,zf0,zf1,qz,qb,qd9,B0,reduceIte,a9]
 refine ji 4 (fun fr' h'=>Sep h' (geL h.length) ([])∧fr' 14 = .bool ((decide (lo_1≤n_0))&&(decide (n_0≤hi_2)))) (fun Q1 hN2=>?_) ?_
 ·simp only [f4,i7]
  simp only [qe (g:=10),B0,reduceIte,a9]
  refine ze (t:=(decide (lo_1≤n_0))) (fun hg3=>?_) (fun hg3=>?_)
  ·simp only [hg3,qe (g:=10),zi,zf0,qf,zf2,qz,qb,qm1,qw,zo,qa,qp,B0,reduceIte,a9]
   exact hN2 _ _ ⟨hS,by rw [yb hg3]; simp only [B0,reduceIte,a9]⟩
  ·simp only [hg3,qe (g:=10),jj,qw,qb,zn,qa,qp,B0,reduceIte,a9]
   exact hN2 _ _ ⟨hS,by rw [yd hg3]; simp only [B0,reduceIte,a9]⟩
 rintro fr4 h6 ⟨hS7,f5⟩
 simp only [i0,i6]
 simp only [f5,qf,qa,qx,B0,reduceIte,a9]
 have he:=qj hF
 subst he
 simp only [q8,B0,reduceIte,a9]
 exact rfl
theorem qm2 {W:Nat→Bool}{h:Heap} (hW:∀ b,
  (geL h.length) b→W b=true) (l_0:List Int) (many_1:Int) (r:Bool) (hF:qc9 l_0 many_1=some r) : Ret E W 72 [lst cI l_0,
  .int .i64 many_1] h (fun v h'=>cut h.length h' E.sz false 9 v=some (.bool r)):=by
 refine Ret.of (fn:=x72) rfl (Run.of ?_)
 unfold qc9 at hF
 have zf0:zb [lst cI l_0,.int .i64 many_1] 0=lst cI l_0:=rfl
 have zf1:zb [lst cI l_0,.int .i64 many_1] 1 = .int .i64 many_1:=rfl
 generalize zb [lst cI l_0,.int .i64 many_1]=fr0 at zf0 zf1 ⊢
 have hS:Sep h (geL h.length) []:=a0k h
 simp only [x72,qc,qd,qf,qa,q67,zf0,zy,qb,jd,B0,reduceIte,a9]
 obtain ⟨oc3,hX5,hk6⟩:=ka hF
 simp only [q3p]
 refine wv (σ:=Unit) l_0 (fun i1 x2 _=>qcw l_0 many_1 i1 x2 ) (fun s fr' h'=>fr' 0=lst cI l_0∧fr' 1 = .int .i64 many_1∧fr' 7=lst cI l_0∧Sep h'
   (geL h.length) ([])) hX5 ⟨zf0,zf1,rfl,hS⟩ (by simp only [B0,reduceIte,a9]) (by simp only [B0,reduceIte,
   a9]) (fun _ _ _ h=>h) rfl rfl (fun _ _ _ _ h=>h) (fun _ _ _ _ h=>h) (fun _ _ _ _ h=>h) (by decide) ?_ ?_
 ·rintro i1 x2 _ fr15 h16 hx21 ⟨f18,f19,f20,hS17⟩ f22 f23 oc4 hF7 hr8 Q9 hN10 hB14 hK11 hR12 hE13
  unfold qcw at hF7
  simp only [q0z,qc,qd,f22,qf,f20,jl,B0,reduceIte,a9]
  refine qh (v := .ref (cI x2) 0) (wx hx21 rfl) ?_
  simp only [qn,B0,reduceIte,a9]
  refine qh (v := .int .i64 x2) rfl ?_
  simp only [qf,qa,q5c,qc,qd,qz,qb,kq,B0,reduceIte,a9]
  refine ji 4 (fun fr' h'=>Sep h' (geL h.length) ([])∧fr' 20 = .bool ((decide (x2<0))||(decide
    (many_1≤x2)))∧fr' 0=lst cI l_0∧fr' 1 = .int .i64 many_1∧fr' 5 = .int .i64 (i1:Int)∧fr' 6 = .int .i64 x2∧fr' 7=lst cI l_0∧fr' 8 = .int .i64
    (f0 l_0:Int)∧fr' 9 = .int .i64 (i1:Int)) (fun Q24 hN25=>?_) ?_
  ·simp only [f4,i7]
   simp only [qe (g:=16),B0,reduceIte,a9]
   refine ze (t:=(decide (x2<0))) (fun hg26=>?_) (fun hg26=>?_)
   ·simp only [hg26,qe (g:=16),jk,qw,qb,zo,qa,qp,B0,reduceIte,a9]
    exact hN25 _ _ ⟨hS17,by rw [orT hg26]; simp only [B0,reduceIte,a9],f18,f19,rfl,rfl,f20,f23,f22⟩
   ·simp only [hg26,qe (g:=16),qv,qf,f19,qz,qb,qd9,qw,zn,qa,qp,B0,reduceIte,a9]
    exact hN25 _ _ ⟨hS17,by rw [orF hg26]; simp only [B0,reduceIte,a9],f18,f19,rfl,rfl,f20,f23,f22⟩
  rintro fr27 h36 ⟨hS37,f28,f29,f30,f31,f32,f33,f34,f35⟩
  simp only [i0,i6]
  simp only [f28,qf,B0,reduceIte,a9]
  obtain ⟨v41,hx42,hF43⟩:=qk hF7
  refine ji 12 (fun fr' h'=>Sep h' (geL h.length) ([])∧fr' 33 = .bool v41∧fr' 0=lst cI l_0∧fr' 1 = .int .i64 many_1∧fr' 7=lst cI l_0∧fr' 8 = .int .i64
    (f0 l_0:Int)∧fr' 9 = .int .i64 (i1:Int)) (fun Q38 hN39=>?_) ?_
  ·simp only [f4,i7]
   simp only [qe (g:=21),B0,reduceIte,a9]
   refine ze (t:=((decide (x2<0))||(decide (many_1≤x2)))) (fun hg40=>?_) (fun hg40=>?_)
   ·rw [iteT hg40] at hx42
    simp only [hg40,qe (g:=21),jk,qe (g:=24),xh,qw,qb,zo,qa,qp,B0,reduceIte,a9]
    have e44:=qj hx42
    exact hN39 _ _ ⟨hS37,by rw [←e44]; simp only [B0,reduceIte,a9],f29,f30,f33,f34,f35⟩
   ·rw [iteF hg40] at hx42
    simp only [hg40,qe (g:=21),qv,f31,qf,qz,qb,qf6,B0,reduceIte,a9]
    obtain ⟨v48,hx49,hF50⟩:=qk hx42
    refine ji 8 (fun fr' h'=>Sep h' (geL h.length) ([])∧fr' 32 = .bool v48∧fr' 0=lst cI l_0∧fr' 1 = .int .i64 many_1∧fr' 7=lst cI l_0∧fr' 8 = .int .i64
      (f0 l_0:Int)∧fr' 9 = .int .i64 (i1:Int)∧fr' 21 = .bool ((decide (x2<0))||(decide (many_1≤x2)))) (fun Q45 hN46=>?_) ?_
    ·simp only [f4,i7]
     simp only [qe (g:=24),B0,reduceIte,a9]
     refine ze (t:=(decide ((0:Int)<(i1:Int)))) (fun hg47=>?_) (fun hg47=>?_)
     ·rw [iteT hg47] at hx49
      obtain ⟨x51,hx52,hF53⟩:=qk hx49
      simp only [hg47,qe (g:=24),zi,f29,qf,f31,qz,qb,qgz,jl,B0,reduceIte,a9]
      refine qh (v := .ref (cI x51) 0) (kx hx52 rfl) ?_
      simp only [hg47,qe (g:=24),zi,qn,B0,reduceIte,a9]
      refine qh (v := .int .i64 x51) rfl ?_
      simp only [hg47,qe (g:=24),zi,f32,qf,qz,qb,qd9,hg40,qe (g:=21),qv,qw,zo,qa,
        qp,B0,reduceIte,a9]
      have e54:=qj hF53
      exact hN46 _ _ ⟨hS37,by rw [←e54]; simp only [B0,reduceIte,a9],f29,f30,f33,f34,f35,by simp only [hg40,B0,reduceIte,a9]⟩
     ·rw [iteF hg47] at hx49
      simp only [hg47,qe (g:=24),jj,hg40,qe (g:=21),qv,qw,qb,zn,qa,qp,B0,reduceIte,
        a9]
      have e55:=qj hx49
      exact hN46 _ _ ⟨hS37,by rw [←e55]; simp only [B0,reduceIte,a9],f29,f30,f33,f34,f35,by simp only [hg40,B0,reduceIte,a9]⟩
    rintro fr56 h64 ⟨hS65,f57,f58,f59,f60,f61,f62,f63⟩
    simp only [i0,i6]
    simp only [f63,hg40,qw,qb,zn,f57,qa,qp,B0,reduceIte,a9]
    have e66:=qj hF50
    exact hN39 _ _ ⟨hS65,by rw [←e66]; simp only [B0,reduceIte,a9],f58,f59,f60,f61,f62⟩
  rintro fr67 h74 ⟨hS75,f68,f69,f70,f71,f72,f73⟩
  simp only [i0,i6]
  simp only [qa,f68,q9,B0,reduceIte,a9]
  refine qy (t:=v41) (fun hc76=>?_) (fun hc76=>?_)
  ·rw [iteT hc76] at hF43
   simp only [qc,qd,qf,qa,qx,B0,reduceIte,a9]
   have e77:=qj hF43
   subst e77
   have ho78:=hr8 _ rfl
   have hk79:=hk6
   rw [ho78] at hk79
   dsimp only [jnO] at hk79
   apply hR12
   have he:=qj hk79
   subst he
   simp only [q8,B0,reduceIte,a9]
   exact rfl
  rw [iteF hc76] at hF43
  simp only [zh,qp,B0,reduceIte,a9]
  have e80:=qj hF43
  exact hN10 _ _ _ e80.symm ⟨f69,f70,f71,hS75⟩ (f73) (f72)
 rintro _ fr82 h83 rfl ⟨f85,f86,f87,hS84⟩
 dsimp only [jnO] at hk6
 unfold qg9 at hk6
 simp only [qc,qd,qf,qa,qx,B0,reduceIte,a9]
 have he:=qj hk6
 subst he
 simp only [q8,B0,reduceIte,a9]
 exact rfl
theorem qdc {W:Nat→Bool}{h:Heap} (hW:∀ b,
  (geL h.length) b→W b=true) (l_0:List Int) (n_1:Int) (r:Bool) (hF:u5 l_0 n_1=some r) : Ret E W 73 [lst cI l_0,
  .int .i64 n_1] h (fun v h'=>cut h.length h' E.sz false 9 v=some (.bool r)):=by
 refine Ret.of (fn:=x73) rfl (Run.of ?_)
 unfold u5 at hF
 have zf0:zb [lst cI l_0,.int .i64 n_1] 0=lst cI l_0:=rfl
 have zf1:zb [lst cI l_0,.int .i64 n_1] 1 = .int .i64 n_1:=rfl
 generalize zb [lst cI l_0,.int .i64 n_1]=fr0 at zf0 zf1 ⊢
 have hS:Sep h (geL h.length) []:=a0k h
 simp only [x73,qc,qd,qf,qa,q3d,zf0,zy,qb,jd,B0,reduceIte,a9]
 obtain ⟨oc3,hX5,hk6⟩:=ka hF
 simp only [qyt]
 refine wv (σ:=Unit) l_0 (fun i1 x2 _=>qd8 n_1 i1 x2 ) (fun s fr' h'=>fr' 1 = .int .i64 n_1∧fr' 7=lst cI l_0∧Sep h' (geL h.length) ([])) hX5 ⟨zf1,
   rfl,hS⟩ (by simp only [B0,reduceIte,a9]) (by simp only [B0,reduceIte,
   a9]) (fun _ _ _ h=>h) rfl rfl (fun _ _ _ _ h=>h) (fun _ _ _ _ h=>h) (fun _ _ _ _ h=>h) (by decide) ?_ ?_
 ·rintro i1 x2 _ fr15 h16 hx20 ⟨f18,f19,hS17⟩ f21 f22 oc4 hF7 hr8 Q9 hN10 hB14 hK11 hR12 hE13
  unfold qd8 at hF7
  simp only [q77,qc,qd,f19,f21,jl,B0,reduceIte,a9]
  refine qh (v := .ref (cI x2) 0) (wx hx20 rfl) ?_
  simp only [qn,B0,reduceIte,a9]
  refine qh (v := .int .i64 x2) rfl ?_
  simp only [qf,qa,qzp,qc,qd,f18,qz,qb,k6,q9,B0,reduceIte,a9]
  refine qy (t:=(decide (x2=n_1))) (fun hc23=>?_) (fun hc23=>?_)
  ·rw [iteT hc23] at hF7
   simp only [qc,qd,qf,qa,qx,B0,reduceIte,a9]
   have e24:=qj hF7
   subst e24
   have ho25:=hr8 _ rfl
   have hk26:=hk6
   rw [ho25] at hk26
   dsimp only [jnO] at hk26
   apply hR12
   have he:=qj hk26
   subst he
   simp only [q8,B0,reduceIte,a9]
   exact rfl
  rw [iteF hc23] at hF7
  simp only [zh,qp,B0,reduceIte,a9]
  have e27:=qj hF7
  exact hN10 _ _ _ e27.symm ⟨f18,f19,hS17⟩ (f21) (f22)
 rintro _ fr29 h30 rfl ⟨f32,f33,hS31⟩
 dsimp only [jnO] at hk6
 unfold qjf at hk6
 simp only [qc,qd,qf,qa,qx,B0,reduceIte,a9]
 have he:=qj hk6
 subst he
 simp only [q8,B0,reduceIte,a9]
 exact rfl
theorem qil {W:Nat→Bool}{h:Heap} (hW:∀ b,
  (geL h.length) b→W b=true) (v_0:View) (n_1:Int) (r:Bool) (hF:qbq v_0 n_1=some r) : Ret E W 53 [.agg [.int .i64 v_0.Epoch,.int .i64 v_0.Leader,
  lst cI v_0.InStep],.int .i64 n_1] h (fun v h'=>cut h.length h' E.sz false 9 v=some (.bool r)):=by
 refine Ret.of (fn:=x53) rfl (Run.of ?_)
 unfold qbq at hF
 have zf0:zb [.agg [.int .i64 v_0.Epoch,.int .i64 v_0.Leader,lst cI v_0.InStep],.int .i64 n_1] 0 = .agg [.int .i64 v_0.Epoch,.int .i64 v_0.Leader,
   lst cI v_0.InStep]:=rfl
 have zf1:zb [.agg [.int .i64 v_0.Epoch,.int .i64 v_0.Leader,lst cI v_0.InStep],.int .i64 n_1] 1 = .int .i64 n_1:=rfl
 generalize zb [.agg [.int .i64 v_0.Epoch,.int .i64 v_0.Leader,lst cI v_0.InStep],.int .i64 n_1]=fr0 at zf0 zf1 ⊢
 have hS:Sep h (geL h.length) []:=a0k h
 simp only [x53,qc,qd,jp,zf0,B0,reduceIte,a9]
 refine je (cs:=[.int .i64 v_0.Epoch,.int .i64 v_0.Leader,lst cI v_0.InStep]) hS rfl rfl rfl (fun b1 h2 hS3=>?_)
 simp only [qf,qa,B0,reduceIte,a9]
 refine zx hS3 hW (by simp only [B0,reduceIte,a9]) (fun h5 hS6=>?_)
 simp only [zw,q3u,qc,qd,qt,qb,d8,d9,e8,qs,qn,B0,reduceIte,a9]
 refine qh (v := .int .i64 v_0.Epoch) rfl ?_
 simp only [zg,B0,reduceIte,a9]
 refine jo rfl (qi qo (qi qo (qi qo zc))) (qbi (fun b hb=>decide_eq_true hb) v_0.Epoch 0 100 _ rfl) ?_
 simp only [qf,B0,reduceIte,a9]
 obtain ⟨v10,hx11,hF12⟩:=qk hF
 refine ji 5 (fun fr' h'=>Sep h' (geL h.length) ([])∧fr' 13 = .bool v10∧fr' 2 = .ref [.int .i64 v_0.Epoch,.int .i64 v_0.Leader,
   lst cI v_0.InStep] 0) (fun Q7 hN8=>?_) ?_
 ·simp only [f4,i7]
  simp only [qe (g:=8),B0,reduceIte,a9]
  refine ze (t:=(ju v_0.Epoch 0 100)) (fun hg9=>?_) (fun hg9=>?_)
  ·rw [iteT hg9] at hx11
   simp only [hg9,qe (g:=8),zi,qt,qb,d8,d9,e8,qs,qn,B0,reduceIte,a9]
   refine qh (v:=lst cI v_0.InStep) rfl ?_
   obtain ⟨v13,hx14,hF15⟩:=qk hx11
   simp only [hg9,qe (g:=8),zi,zf1,qf,zg,B0,reduceIte,a9]
   refine jo rfl (qi zk (qi qo zc)) (qm2 (fun b hb=>decide_eq_true hb) v_0.InStep n_1 v13 hx14) ?_
   simp only [hg9,qw,qb,zo,qa,qp,B0,reduceIte,a9]
   have e16:=qj hF15
   exact hN8 _ _ ⟨hS6,by rw [←e16]; simp only [B0,reduceIte,a9],rfl⟩
  ·rw [iteF hg9] at hx11
   simp only [hg9,qe (g:=8),jj,qw,qb,zn,qa,qp,B0,reduceIte,a9]
   have e17:=qj hx11
   exact hN8 _ _ ⟨hS6,by rw [←e17]; simp only [B0,reduceIte,a9],rfl⟩
 rintro fr18 h21 ⟨hS22,f19,f20⟩
 simp only [i0,i6]
 simp only [f19,qf,B0,reduceIte,a9]
 obtain ⟨v26,hx27,hF28⟩:=qk hF12
 refine ji 6 (fun fr' h'=>Sep h' (geL h.length) ([])∧fr' 20 = .bool v26) (fun Q23 hN24=>?_) ?_
 ·simp only [f4,i7]
  simp only [qe (g:=14),B0,reduceIte,a9]
  refine ze (t:=v10) (fun hg25=>?_) (fun hg25=>?_)
  ·rw [iteT hg25] at hx27
   simp only [hg25,qe (g:=14),zi,f20,qt,qb,d8,d9,e8,qs,qn,B0,reduceIte,a9]
   refine qh (v:=lst cI v_0.InStep) rfl ?_
   simp only [hg25,qe (g:=14),zi,f20,qt,qb,d8,d9,e8,qs,qn,B0,reduceIte,a9]
   refine qh (v := .int .i64 v_0.Leader) rfl ?_
   obtain ⟨v29,hx30,hF31⟩:=qk hx27
   simp only [hg25,qe (g:=14),zi,zg,B0,reduceIte,a9]
   refine jo rfl (qi zk (qi qo zc)) (qdc (fun b hb=>decide_eq_true hb) v_0.InStep v_0.Leader v29 hx30) ?_
   simp only [hg25,qw,qb,zo,qa,qp,B0,reduceIte,a9]
   have e32:=qj hF31
   exact hN24 _ _ ⟨hS22,by rw [←e32]; simp only [B0,reduceIte,a9]⟩
  ·rw [iteF hg25] at hx27
   simp only [hg25,qe (g:=14),jj,qw,qb,zn,qa,qp,B0,reduceIte,a9]
   have e33:=qj hx27
   exact hN24 _ _ ⟨hS22,by rw [←e33]; simp only [B0,reduceIte,a9]⟩
 rintro fr34 h36 ⟨hS37,f35⟩
 simp only [i0,i6]
 simp only [f35,qf,qa,qx,B0,reduceIte,a9]
 have he:=qj hF28
 subst he
 simp only [q8,B0,reduceIte,a9]
 exact rfl
theorem qjd {W:Nat→Bool}{h:Heap} (hW:∀ b,
  (geL h.length) b→W b=true) (l_0:List Row) (epoch_1:Int) (r:Bool) (hF:qcs l_0 epoch_1=some r) : Ret E W 54 [lst qg l_0,
  .int .i64 epoch_1] h (fun v h'=>cut h.length h' E.sz false 9 v=some (.bool r)):=by
 refine Ret.of (fn:=x54) rfl (Run.of ?_)
 unfold qcs at hF
 have zf0:zb [lst qg l_0,.int .i64 epoch_1] 0=lst qg l_0:=rfl
 have zf1:zb [lst qg l_0,.int .i64 epoch_1] 1 = .int .i64 epoch_1:=rfl
 generalize zb [lst qg l_0,.int .i64 epoch_1]=fr0 at zf0 zf1 ⊢
 have hS:Sep h (geL h.length) []:=a0k h
 simp only [x54,qc,qd,qf,qa,qyk,zf0,zy,qb,jd,B0,reduceIte,a9]
 obtain ⟨oc3,hX5,hk6⟩:=ka hF
 simp only [q1t]
 refine wv (σ:=Unit) l_0 (fun i1 x2 _=>qdm l_0 epoch_1 i1 x2 )
   (fun s fr' h'=>fr' 0=lst qg l_0∧fr' 1 = .int .i64 epoch_1∧fr' 7=lst qg l_0∧Sep h' (geL h.length) ([])) hX5 ⟨zf0,zf1,rfl,hS⟩ (by simp only [B0,
   reduceIte,a9]) (by simp only [B0,reduceIte,
   a9]) (fun _ _ _ h=>h) rfl rfl (fun _ _ _ _ h=>h) (fun _ _ _ _ h=>h) (fun _ _ _ _ h=>h) (by decide) ?_ ?_
 ·rintro i1 x2 _ fr15 h16 hx21 ⟨f18,f19,f20,hS17⟩ f22 f23 oc4 hF7 hr8 Q9 hN10 hB14 hK11 hR12 hE13
  unfold qdm at hF7
  simp only [q6j,qc,qd,f22,qf,f20,jl,B0,reduceIte,a9]
  refine qh (v := .ref (qg x2) 0) (wx hx21 rfl) ?_
  simp only [qn,B0,reduceIte,a9]
  refine qh (v := .agg [.int .i64 x2.Epoch,.int .i64 x2.Value]) rfl ?_
  simp only [kd,B0,reduceIte,a9]
  refine jt hS17 (fun b24 h25 hS26=>?_)
  simp only [qf,zp,B0,reduceIte,a9]
  refine zm (us:=[.int .i64 x2.Epoch,.int .i64 x2.Value]) rfl (cs':=[.int .i64 x2.Epoch,.int .i64 x2.Value]) hS26 hW rfl rfl (nle rfl) rfl (fun h28 hS29=>?_)
  simp only [qa,B0,reduceIte,a9]
  refine zx hS29 hW (by simp only [B0,reduceIte,a9]) (fun h30 hS31=>?_)
  simp only [zw,q7c,qc,js,jb,ql,d8,d9,e8,qs,zt,B0,reduceIte,a9]
  refine qu (v := .int .i64 x2.Epoch) rfl ?_
  simp only [f19,zr,ql,ki,B0,reduceIte,a9]
  refine uy rfl (qi qo (qi qo (qi qo zc))) (qbi (fun b hb=>decide_eq_true hb) x2.Epoch 0 epoch_1 _ rfl) ?_
  simp only [qcx,ql,ko,zr,B0,reduceIte,a9]
  simp only [qr (g:=19),B0,reduceIte,a9]
  refine jm (t:=(!(ju x2.Epoch 0 epoch_1))) (fun hg32=>?_) (fun hg32=>?_)
  ·rw [iteT hg32] at hF7
   simp only [hg32,qr (g:=19),wo,jh,ql,zo,zr,qr (g:=25),qr (g:=28),qiw,za,q9,
     qj9,qc,qd,qf,qa,qx,B0,reduceIte,a9]
   have e33:=qj hF7
   subst e33
   have ho34:=hr8 _ rfl
   have hk35:=hk6
   rw [ho34] at hk35
   dsimp only [jnO] at hk35
   apply hR12
   have he:=qj hk35
   subst he
   simp only [q8,B0,reduceIte,a9]
   exact rfl
  rw [iteF hg32] at hF7
  simp only [hg32,qr (g:=19),zz,jb,ql,d8,d9,e8,qs,zt,B0,reduceIte,a9]
  refine qu (v := .int .i64 x2.Value) rfl ?_
  simp only [hg32,qr (g:=19),zz,ki,B0,reduceIte,a9]
  refine uy rfl (qi qo (qi qo (qi qo zc))) (qbi (fun b hb=>decide_eq_true hb) x2.Value 0 99 _ rfl) ?_
  simp only [hg32,qr (g:=19),zz,qcx,ql,ko,jh,zn,zr,B0,reduceIte,a9]
  obtain ⟨v39,hx40,hF41⟩:=qk hF7
  refine we 14 (fun fr' h'=>Sep h' (geL h.length)
    ([])∧fr' 39 = .bool v39∧fr' 0=lst qg l_0∧fr' 1 = .int .i64 epoch_1∧fr' 7=lst qg l_0∧fr' 8 = .int .i64
    (f0 l_0:Int)∧fr' 9 = .int .i64 (i1:Int)) rfl (fun Q36 hN37=>?_) ?_
  ·simp only [f4,i7]
   simp only [qr (g:=25),B0,reduceIte,a9]
   refine jm (t:=(!(ju x2.Value 0 99))) (fun hg38=>?_) (fun hg38=>?_)
   ·rw [iteT hg38] at hx40
    simp only [hg38,qr (g:=25),wo,qr (g:=28),qiw,jh,ql,zo,za,qp,B0,reduceIte,a9]
    have e42:=qj hx40
    exact hN37 _ _ ⟨hS31,by rw [←e42]; simp only [B0,reduceIte,a9],f18,f19,f20,f23,f22⟩
   ·rw [iteF hg38] at hx40
    simp only [hg38,qr (g:=25),zz,zr,ql,k5,qf6,B0,reduceIte,a9]
    obtain ⟨v46,hx47,hF48⟩:=qk hx40
    refine we 10 (fun fr' h'=>Sep h' (geL h.length)
      ([])∧fr' 38 = .bool v46∧fr' 0=lst qg l_0∧fr' 1 = .int .i64 epoch_1∧fr' 7=lst qg l_0∧fr' 8 = .int .i64
      (f0 l_0:Int)∧fr' 9 = .int .i64 (i1:Int)∧fr' 25 = .bool (!(ju x2.Value 0 99))) rfl (fun Q43 hN44=>?_) ?_
    ·simp only [f4,i7]
     simp only [qr (g:=28),B0,reduceIte,a9]
     refine jm (t:=(decide ((0:Int)<(i1:Int)))) (fun hg45=>?_) (fun hg45=>?_)
     ·rw [iteT hg45] at hx47
      obtain ⟨x49,hx50,hF51⟩:=qk hx47
      simp only [hg45,qr (g:=28),zl,f18,zr,ql,k5,qgz,yz,B0,reduceIte,a9]
      refine qu (v := .ref (qg x49) 0) (kx hx50 rfl) ?_
      simp only [hg45,qr (g:=28),zl,jb,ql,d8,d9,e8,qs,zt,B0,reduceIte,a9]
      refine qu (v := .int .i64 x49.Epoch) rfl ?_
      simp only [hg45,qr (g:=28),zl,jb,ql,d8,d9,e8,qs,zt,B0,reduceIte,a9]
      refine qu (v := .int .i64 x2.Epoch) rfl ?_
      simp only [hg45,qr (g:=28),zl,k5,ql,qf6,hg38,qr (g:=25),zz,jh,zo,za,qp,B0,
        reduceIte,a9]
      have e52:=qj hF51
      exact hN44 _ _ ⟨hS31,by rw [←e52]; simp only [B0,reduceIte,a9],f18,f19,f20,f23,f22,by simp only [hg38,B0,reduceIte,a9]⟩
     ·rw [iteF hg45] at hx47
      simp only [hg45,qr (g:=28),ku,hg38,qr (g:=25),zz,jh,ql,zn,za,qp,B0,reduceIte,
        a9]
      have e53:=qj hx47
      exact hN44 _ _ ⟨hS31,by rw [←e53]; simp only [B0,reduceIte,a9],f18,f19,f20,f23,f22,by simp only [hg38,B0,reduceIte,a9]⟩
    rintro fr54 h62 ⟨hS63,f55,f56,f57,f58,f59,f60,f61⟩
    simp only [i0,i6]
    simp only [f61,hg38,jh,ql,zn,f55,za,qp,B0,reduceIte,a9]
    have e64:=qj hF48
    exact hN37 _ _ ⟨hS63,by rw [←e64]; simp only [B0,reduceIte,a9],f56,f57,f58,f59,f60⟩
  rintro fr65 h72 ⟨hS73,f66,f67,f68,f69,f70,f71⟩
  simp only [i0,i6]
  simp only [za,f66,q9,B0,reduceIte,a9]
  refine qy (t:=v39) (fun hc74=>?_) (fun hc74=>?_)
  ·rw [iteT hc74] at hF41
   simp only [qc,qd,qf,qa,qx,B0,reduceIte,a9]
   have e75:=qj hF41
   subst e75
   have ho76:=hr8 _ rfl
   have hk77:=hk6
   rw [ho76] at hk77
   dsimp only [jnO] at hk77
   apply hR12
   have he:=qj hk77
   subst he
   simp only [q8,B0,reduceIte,a9]
   exact rfl
  rw [iteF hc74] at hF41
  simp only [zh,qp,B0,reduceIte,a9]
  have e78:=qj hF41
  exact hN10 _ _ _ e78.symm ⟨f67,f68,f69,hS73⟩ (f71) (f70)
 rintro _ fr80 h81 rfl ⟨f83,f84,f85,hS82⟩
 dsimp only [jnO] at hk6
 unfold qie at hk6
 simp only [q0u,qc,qd,f83,qf,zy,qb,jd,qz,qm1,qa,qx,B0,reduceIte,a9]
 have he:=qj hk6
 subst he
 simp only [q8,B0,reduceIte,a9]
 exact rfl
theorem qeg {W:Nat→Bool}{h:Heap} (hW:∀ b,
  (geL h.length) b→W b=true) (c_0:Cluster) (k_1:Int) (r:Bool) (hF:w7 c_0 k_1=some r) : Ret E W 60 [.agg [.int .i64 c_0.Truth.Epoch,
  .int .i64 c_0.Truth.Leader,lst cI c_0.Truth.InStep,lst qq c_0.Nodes,lst qg c_0.Acked],
  .int .i64 k_1] h (fun v h'=>cut h.length h' E.sz false 9 v=some (.bool r)):=by
 refine Ret.of (fn:=x60) rfl (Run.of ?_)
 unfold w7 at hF
 have zf0:zb [.agg [.int .i64 c_0.Truth.Epoch,.int .i64 c_0.Truth.Leader,lst cI c_0.Truth.InStep,lst qq c_0.Nodes,lst qg c_0.Acked],
   .int .i64 k_1] 0 = .agg [.int .i64 c_0.Truth.Epoch,.int .i64 c_0.Truth.Leader,lst cI c_0.Truth.InStep,lst qq c_0.Nodes,lst qg c_0.Acked]:=rfl
 have zf1:zb [.agg [.int .i64 c_0.Truth.Epoch,.int .i64 c_0.Truth.Leader,lst cI c_0.Truth.InStep,lst qq c_0.Nodes,lst qg c_0.Acked],
   .int .i64 k_1] 1 = .int .i64 k_1:=rfl
 generalize zb [.agg [.int .i64 c_0.Truth.Epoch,.int .i64 c_0.Truth.Leader,lst cI c_0.Truth.InStep,lst qq c_0.Nodes,lst qg c_0.Acked],
   .int .i64 k_1]=fr0 at zf0 zf1 ⊢
 have hS:Sep h (geL h.length) []:=a0k h
 simp only [x60,qc,qd,jp,zf0,B0,reduceIte,a9]
 refine je (cs:=[.int .i64 c_0.Truth.Epoch,.int .i64 c_0.Truth.Leader,lst cI c_0.Truth.InStep,lst qq c_0.Nodes,
   lst qg c_0.Acked]) hS rfl rfl rfl (fun b1 h2 hS3=>?_)
 simp only [qf,qa,B0,reduceIte,a9]
 refine zx hS3 hW (by simp only [B0,reduceIte,a9]) (fun h5 hS6=>?_)
 simp only [zw,q14,qc,qd,qt,qb,d8,d9,e8,qs,qn,B0,reduceIte,a9]
 refine qh (v:=lst qq c_0.Nodes) rfl ?_
 obtain ⟨x7,hx8,hF9⟩:=qk hF
 simp only [zf1,qf,jl,B0,reduceIte,a9]
 refine qh (v := .ref (qq x7) 0) (kx hx8 rfl) ?_
 simp only [qt,qb,d8,d9,e8,qs,qn,B0,reduceIte,a9]
 refine qh (v := .int .i64 x7.View.Leader) rfl ?_
 simp only [zf1,qf,qz,qb,k6,qa,qx,B0,reduceIte,a9]
 have he:=qj hF9
 subst he
 simp only [q8,B0,reduceIte,a9]
 exact rfl
theorem qio {W:Nat→Bool}{h:Heap} (hW:∀ b,
  (geL h.length) b→W b=true) (k:Nat) (a_0:List Row) (b_1:List Row) (r:Int) (hF:ua k a_0 b_1=some r) : Ret E W 74 [lst qg a_0,
  lst qg b_1] h (fun v h'=>cut h.length h' E.sz false 9 v=some (.int .i64 r)):=by
 refine Ret.of (fn:=x74) rfl (Run.of ?_)
 unfold ua at hF
 have zf0:zb [lst qg a_0,lst qg b_1] 0=lst qg a_0:=rfl
 have zf1:zb [lst qg a_0,lst qg b_1] 1=lst qg b_1:=rfl
 generalize zb [lst qg a_0,lst qg b_1]=fr0 at zf0 zf1 ⊢
 have hS:Sep h (geL h.length) []:=a0k h
 simp only [x74,qc,qd,qf,qa,q6z,q6k,B0,reduceIte,a9]
 obtain ⟨oc5,hX7,hk8⟩:=ka hF
 simp only [q0y]
 refine w5 (σ:=Int) (fun s58=>qa5 a_0 b_1 s58) (fun s fr' h'=>fr' 0=lst qg a_0∧fr' 1=lst qg b_1∧fr' 5 = .int .i64 s∧Sep h'
   (geL h.length) ([])) hX7 ⟨zf0,zf1,rfl,hS⟩ (fun _ _ _ h=>h) ?_ ?_
 ·rintro s2 fr17 h18 ⟨f20,f21,f22,hS19⟩ oc6 hF9 hr10 Q11 hN12 hK13 hR14 hE15
  unfold qa5 at hF9
  simp only [q5y,qc,js,f22,zr,ql,f20,qdy,jd,k5,kq,B0,reduceIte,a9]
  refine we 5 (fun fr' h'=>Sep h' (geL h.length) ([])∧fr' 15 = .bool ((decide (s2<(f0 a_0:Int)))&&(decide (s2 <
    (f0 b_1:Int))))∧fr' 0=lst qg a_0∧fr' 1=lst qg b_1∧fr' 5 = .int .i64 s2) rfl (fun Q24 hN25=>?_) ?_
  ·simp only [f4,i7]
   simp only [qr (g:=10),B0,reduceIte,a9]
   refine jm (t:=(decide (s2<(f0 a_0:Int)))) (fun hg26=>?_) (fun hg26=>?_)
   ·simp only [hg26,qr (g:=10),zl,f22,zr,ql,f21,qdy,jd,k5,kq,jh,zo,za,qp,B0,reduceIte,
     a9]
    exact hN25 _ _ ⟨hS19,by rw [yb hg26]; simp only [B0,reduceIte,a9],f20,f21,f22⟩
   ·simp only [hg26,qr (g:=10),ku,jh,ql,zn,za,qp,B0,reduceIte,a9]
    exact hN25 _ _ ⟨hS19,by rw [yd hg26]; simp only [B0,reduceIte,a9],f20,f21,f22⟩
  rintro fr27 h32 ⟨hS33,f28,f29,f30,f31⟩
  simp only [i0,i6]
  simp only [f28,zr,ql,B0,reduceIte,a9]
  obtain ⟨v37,hx38,hF39⟩:=qk hF9
  refine we 10 (fun fr' h'=>Sep h' (geL h.length) ([])∧fr' 26 = .bool v37∧fr' 0=lst qg a_0∧fr' 1=lst qg b_1∧fr' 5 = .int .i64 s2) rfl
    (fun Q34 hN35=>?_) ?_
  ·simp only [f4,i7]
   simp only [qr (g:=16),B0,reduceIte,a9]
   refine jm (t:=((decide (s2<(f0 a_0:Int)))&&(decide (s2<(f0 b_1:Int))))) (fun hg36=>?_) (fun hg36=>?_)
   ·rw [iteT hg36] at hx38
    obtain ⟨x40,hx41,hF42⟩:=qk hx38
    simp only [hg36,qr (g:=16),zl,f29,zr,ql,f31,yz,B0,reduceIte,a9]
    refine qu (v := .ref (qg x40) 0) (kx hx41 rfl) ?_
    simp only [hg36,qr (g:=16),zl,zt,B0,reduceIte,a9]
    refine qu (v := .agg [.int .i64 x40.Epoch,.int .i64 x40.Value]) rfl ?_
    obtain ⟨x43,hx44,hF45⟩:=qk hF42
    simp only [hg36,qr (g:=16),zl,f30,zr,ql,f31,yz,B0,reduceIte,a9]
    refine qu (v := .ref (qg x43) 0) (kx hx44 rfl) ?_
    simp only [hg36,qr (g:=16),zl,zt,B0,reduceIte,a9]
    refine qu (v := .agg [.int .i64 x43.Epoch,.int .i64 x43.Value]) rfl ?_
    simp only [hg36,qr (g:=16),zl,qpy,B0,reduceIte,a9]
    refine qu (v := .bool ((x40.Epoch == x43.Epoch)&&((x40.Value == x43.Value)&&true))) rfl ?_
    simp only [hg36,jh,ql,zo,za,qp,B0,reduceIte,a9]
    have e46:=qj hF45
    exact hN35 _ _ ⟨hS33,by rw [←e46]; simp only [B0,reduceIte,a9],f29,f30,f31⟩
   ·rw [iteF hg36] at hx38
    simp only [hg36,qr (g:=16),ku,jh,ql,zn,za,qp,B0,reduceIte,a9]
    have e47:=qj hx38
    exact hN35 _ _ ⟨hS33,by rw [←e47]; simp only [B0,reduceIte,a9],f29,f30,f31⟩
  rintro fr48 h53 ⟨hS54,f49,f50,f51,f52⟩
  simp only [i0,i6]
  simp only [za,f49,q9,B0,reduceIte,a9]
  refine qy (t:=v37) (fun hc55=>?_) (fun hc55=>?_)
  ·rw [iteT hc55] at hF39
   simp only [zh,kz,qd,f52,qf,qz,qb,wn,qa,yl,qp,B0,reduceIte,a9]
   have e56:=qj hF39
   exact hN12 _ _ _ e56.symm ⟨f50,f51,rfl,hS54⟩
  rw [iteF hc55] at hF39
  simp only [yy,yn,wh,B0,reduceIte,a9]
  have e57:=qj hF39
  exact hK13 _ _ _ e57.symm ⟨f50,f51,f52,hS54⟩
 rintro s59 fr60 h61 rfl ⟨f63,f64,f65,hS62⟩
 dsimp only [jnO] at hk8
 unfold qhk at hk8
 simp only [qc,qd,f65,qf,qa,qx,B0,reduceIte,a9]
 have he:=qj hk8
 subst he
 simp only [q8,B0,reduceIte,a9]
 exact rfl
end Go.Proofs.Ytohofoampalhoaa.X
namespace Go.Proofs.Ytohofoampalhoaa.X
open Go
theorem qmw {W:Nat→Bool}{h:Heap} (hW:∀ b,
  (geL h.length) b→W b=true) (k:Nat) (v_0:Cluster) (v_1:Int) (r:Bool) (hF:qdh k v_0 v_1=some r) : Ret E W 55 [.agg [.int .i64 v_0.Truth.Epoch,
  .int .i64 v_0.Truth.Leader,lst cI v_0.Truth.InStep,lst qq v_0.Nodes,lst qg v_0.Acked],
  .int .i64 v_1] h (fun v h'=>cut h.length h' E.sz false 9 v=some (.bool r)):=by
 refine Ret.of (fn:=x55) rfl (Run.of ?_)
 unfold qdh at hF
 have zf0:zb [.agg [.int .i64 v_0.Truth.Epoch,.int .i64 v_0.Truth.Leader,lst cI v_0.Truth.InStep,lst qq v_0.Nodes,lst qg v_0.Acked],
   .int .i64 v_1] 0 = .agg [.int .i64 v_0.Truth.Epoch,.int .i64 v_0.Truth.Leader,lst cI v_0.Truth.InStep,lst qq v_0.Nodes,lst qg v_0.Acked]:=rfl
 have zf1:zb [.agg [.int .i64 v_0.Truth.Epoch,.int .i64 v_0.Truth.Leader,lst cI v_0.Truth.InStep,lst qq v_0.Nodes,lst qg v_0.Acked],
   .int .i64 v_1] 1 = .int .i64 v_1:=rfl
 generalize zb [.agg [.int .i64 v_0.Truth.Epoch,.int .i64 v_0.Truth.Leader,lst cI v_0.Truth.InStep,lst qq v_0.Nodes,lst qg v_0.Acked],
   .int .i64 v_1]=fr0 at zf0 zf1 ⊢
 have hS:Sep h (geL h.length) []:=a0k h
 simp only [x55,qc,qd,jp,zf0,B0,reduceIte,a9]
 refine je (cs:=[.int .i64 v_0.Truth.Epoch,.int .i64 v_0.Truth.Leader,lst cI v_0.Truth.InStep,lst qq v_0.Nodes,
   lst qg v_0.Acked]) hS rfl rfl rfl (fun b1 h2 hS3=>?_)
 simp only [qf,qa,B0,reduceIte,a9]
 refine zx hS3 hW (by simp only [B0,reduceIte,a9]) (fun h5 hS6=>?_)
 simp only [zw,q7q,qc,qd,qt,qb,d8,d9,e8,qs,qn,B0,reduceIte,a9]
 refine qh (v:=lst qq v_0.Nodes) rfl ?_
 obtain ⟨x7,hx8,hF9⟩:=qk hF
 simp only [zf1,qf,jl,B0,reduceIte,a9]
 refine qh (v := .ref (qq x7) 0) (kx hx8 rfl) ?_
 simp only [qn,B0,reduceIte,a9]
 refine qh (v := .agg [.int .i64 x7.View.Epoch,.int .i64 x7.View.Leader,lst cI x7.View.InStep,lst qg x7.Log,lst cI x7.Known,.int .i64 x7.Told]) rfl ?_
 simp only [kd,B0,reduceIte,a9]
 refine jt hS6 (fun b10 h11 hS12=>?_)
 simp only [zp,B0,reduceIte,a9]
 refine zm (us:=[.int .i64 x7.View.Epoch,.int .i64 x7.View.Leader,lst cI x7.View.InStep,lst qg x7.Log,lst cI x7.Known,
   .int .i64 x7.Told]) rfl (cs':=[.int .i64 x7.View.Epoch,.int .i64 x7.View.Leader,lst cI x7.View.InStep,lst qg x7.Log,lst cI x7.Known,
   .int .i64 x7.Told]) hS12 hW rfl rfl (nle rfl) rfl (fun h14 hS15=>?_)
 simp only [qa,B0,reduceIte,a9]
 refine zx hS15 hW (by simp only [B0,reduceIte,a9]) (fun h16 hS17=>?_)
 simp only [zw,q0r,qc,qd,qt,qb,d8,d9,e8,qs,qn,B0,reduceIte,a9]
 refine qh (v := .agg [.int .i64 x7.View.Epoch,.int .i64 x7.View.Leader,lst cI x7.View.InStep]) rfl ?_
 simp only [qt,qb,d8,d9,e8,qs,qn,B0,reduceIte,a9]
 refine qh (v:=lst qq v_0.Nodes) rfl ?_
 obtain ⟨v18,hx19,hF20⟩:=qk hF9
 simp only [zy,qb,jd,zg,B0,reduceIte,a9]
 refine jo rfl (qi (zv (qi qo (qi qo (qi zk zc)))) (qi qo zc)) (qil (fun b hb=>decide_eq_true hb) x7.View
   (f0 v_0.Nodes:Int) v18 hx19) ?_
 simp only [j8,qb,ko,qf,B0,reduceIte,a9]
 refine ji 8 (fun fr' h'=>Sep h' (geL h.length) ([])∧fr' 28 = .bool ((!v18)||(decide
   (v_0.Truth.Epoch<x7.View.Epoch)))∧fr' 1 = .int .i64 v_1∧fr' 2 = .ref [.int .i64 v_0.Truth.Epoch,.int .i64 v_0.Truth.Leader,lst cI v_0.Truth.InStep,
   lst qq v_0.Nodes,lst qg v_0.Acked] 0∧fr' 5 = .ref [.int .i64 x7.View.Epoch,.int .i64 x7.View.Leader,lst cI x7.View.InStep,lst qg x7.Log,
   lst cI x7.Known,.int .i64 x7.Told] 0) (fun Q21 hN22=>?_) ?_
 ·simp only [f4,i7]
  simp only [qe (g:=20),B0,reduceIte,a9]
  refine ze (t:=(!v18)) (fun hg23=>?_) (fun hg23=>?_)
  ·simp only [hg23,qe (g:=20),jk,qw,qb,zo,qa,qp,B0,reduceIte,a9]
   exact hN22 _ _ ⟨hS17,by rw [orT hg23]; simp only [B0,reduceIte,a9],zf1,rfl,rfl⟩
  ·simp only [hg23,qe (g:=20),qv,qt,qb,d8,d9,e8,qs,qn,B0,reduceIte,a9]
   refine qh (v := .int .i64 x7.View.Epoch) rfl ?_
   simp only [hg23,qe (g:=20),qv,qt,qb,d8,d9,e8,qs,qn,B0,reduceIte,a9]
   refine qh (v := .int .i64 v_0.Truth.Epoch) rfl ?_
   simp only [hg23,qe (g:=20),qv,qz,qb,qf6,qw,zn,qa,qp,B0,reduceIte,a9]
   exact hN22 _ _ ⟨hS17,by rw [orF hg23]; simp only [B0,reduceIte,a9],zf1,rfl,rfl⟩
 rintro fr24 h29 ⟨hS30,f25,f26,f27,f28⟩
 simp only [i0,i6]
 simp only [f25,qf,B0,reduceIte,a9]
 refine ji 17 (fun fr' h'=>Sep h' (geL h.length) ([])∧fr' 46 = .bool (((!v18)||(decide (v_0.Truth.Epoch<x7.View.Epoch)))||((decide
   (x7.View.Epoch=v_0.Truth.Epoch))&&(decide (x7.View.Leader≠v_0.Truth.Leader))))∧fr' 1 = .int .i64 v_1∧fr' 2 = .ref [.int .i64 v_0.Truth.Epoch,
   .int .i64 v_0.Truth.Leader,lst cI v_0.Truth.InStep,lst qq v_0.Nodes,lst qg v_0.Acked] 0∧fr' 5 = .ref [.int .i64 x7.View.Epoch,.int .i64 x7.View.Leader,
   lst cI x7.View.InStep,lst qg x7.Log,lst cI x7.Known,.int .i64 x7.Told] 0) (fun Q31 hN32=>?_) ?_
 ·simp only [f4,i7]
  simp only [qe (g:=29),B0,reduceIte,a9]
  refine ze (t:=((!v18)||(decide (v_0.Truth.Epoch<x7.View.Epoch)))) (fun hg33=>?_) (fun hg33=>?_)
  ·simp only [hg33,qe (g:=29),jk,qe (g:=37),xh,qw,qb,zo,qa,qp,B0,reduceIte,a9]
   exact hN32 _ _ ⟨hS30,by rw [orT hg33]; simp only [B0,reduceIte,a9],f26,f27,f28⟩
  ·simp only [hg33,qe (g:=29),qv,f28,qt,qb,d8,d9,e8,qs,qn,B0,reduceIte,a9]
   refine qh (v := .int .i64 x7.View.Epoch) rfl ?_
   simp only [hg33,qe (g:=29),qv,f27,qt,qb,d8,d9,e8,qs,qn,B0,reduceIte,a9]
   refine qh (v := .int .i64 v_0.Truth.Epoch) rfl ?_
   simp only [hg33,qe (g:=29),qv,qz,qb,k6,qf,B0,reduceIte,a9]
   refine ji 8 (fun fr' h'=>Sep h' (geL h.length) ([])∧fr' 45 = .bool ((decide (x7.View.Epoch=v_0.Truth.Epoch))&&(decide
     (x7.View.Leader≠v_0.Truth.Leader)))∧fr' 1 = .int .i64 v_1∧fr' 2 = .ref [.int .i64 v_0.Truth.Epoch,.int .i64 v_0.Truth.Leader,lst cI v_0.Truth.InStep,
     lst qq v_0.Nodes,lst qg v_0.Acked] 0∧fr' 5 = .ref [.int .i64 x7.View.Epoch,.int .i64 x7.View.Leader,lst cI x7.View.InStep,lst qg x7.Log,
     lst cI x7.Known,.int .i64 x7.Told] 0∧fr' 29 = .bool ((!v18)||(decide (v_0.Truth.Epoch<x7.View.Epoch)))) (fun Q34 hN35=>?_) ?_
   ·simp only [f4,i7]
    simp only [qe (g:=37),B0,reduceIte,a9]
    refine ze (t:=(decide (x7.View.Epoch=v_0.Truth.Epoch))) (fun hg36=>?_) (fun hg36=>?_)
    ·simp only [hg36,qe (g:=37),zi,f28,qt,qb,d8,d9,e8,qs,qn,B0,reduceIte,a9]
     refine qh (v := .int .i64 x7.View.Leader) rfl ?_
     simp only [hg36,qe (g:=37),zi,f27,qt,qb,d8,d9,e8,qs,qn,B0,reduceIte,a9]
     refine qh (v := .int .i64 v_0.Truth.Leader) rfl ?_
     simp only [hg36,qe (g:=37),zi,qz,qb,ya,hg33,qe (g:=29),qv,qw,zo,qa,qp,B0,
       reduceIte,a9]
     exact hN35 _ _ ⟨hS30,by rw [yb hg36]; simp only [B0,reduceIte,a9],f26,f27,f28,by simp only [hg33,B0,reduceIte,a9]⟩
    ·simp only [hg36,qe (g:=37),jj,hg33,qe (g:=29),qv,qw,qb,zn,qa,qp,B0,reduceIte,a9]
     exact hN35 _ _ ⟨hS30,by rw [yd hg36]; simp only [B0,reduceIte,a9],f26,f27,f28,by simp only [hg33,B0,reduceIte,a9]⟩
   rintro fr37 h43 ⟨hS44,f38,f39,f40,f41,f42⟩
   simp only [i0,i6]
   simp only [f42,hg33,qw,qb,zn,f38,qa,qp,B0,reduceIte,a9]
   exact hN32 _ _ ⟨hS44,by rw [orF hg33]; simp only [B0,reduceIte,a9],f39,f40,f41⟩
 rintro fr45 h50 ⟨hS51,f46,f47,f48,f49⟩
 simp only [i0,i6]
 simp only [f46,qf,B0,reduceIte,a9]
 obtain ⟨v55,hx56,hF57⟩:=qk hF20
 refine ji 8 (fun fr' h'=>Sep h' (geL h.length) ([])∧fr' 55 = .bool v55∧fr' 1 = .int .i64 v_1∧fr' 2 = .ref [.int .i64 v_0.Truth.Epoch,.int .i64 v_0.Truth.Leader,
   lst cI v_0.Truth.InStep,lst qq v_0.Nodes,lst qg v_0.Acked] 0∧fr' 5 = .ref [.int .i64 x7.View.Epoch,.int .i64 x7.View.Leader,lst cI x7.View.InStep,
   lst qg x7.Log,lst cI x7.Known,.int .i64 x7.Told] 0) (fun Q52 hN53=>?_) ?_
 ·simp only [f4,i7]
  simp only [qe (g:=47),B0,reduceIte,a9]
  refine ze (t:=(((!v18)||(decide (v_0.Truth.Epoch<x7.View.Epoch)))||((decide (x7.View.Epoch=v_0.Truth.Epoch))&&(decide
    (x7.View.Leader≠v_0.Truth.Leader))))) (fun hg54=>?_) (fun hg54=>?_)
  ·rw [iteT hg54] at hx56
   simp only [hg54,qe (g:=47),jk,qw,qb,zo,qa,qp,B0,reduceIte,a9]
   have e58:=qj hx56
   exact hN53 _ _ ⟨hS51,by rw [←e58]; simp only [B0,reduceIte,a9],f47,f48,f49⟩
  ·rw [iteF hg54] at hx56
   simp only [hg54,qe (g:=47),qv,f49,qt,qb,d8,d9,e8,qs,qn,B0,reduceIte,a9]
   refine qh (v:=lst qg x7.Log) rfl ?_
   simp only [hg54,qe (g:=47),qv,f49,qt,qb,d8,d9,e8,qs,qn,B0,reduceIte,a9]
   refine qh (v := .int .i64 x7.View.Epoch) rfl ?_
   obtain ⟨v59,hx60,hF61⟩:=qk hx56
   simp only [hg54,qe (g:=47),qv,zg,B0,reduceIte,a9]
   refine jo rfl (qi zk (qi qo zc)) (qjd (fun b hb=>decide_eq_true hb) x7.Log x7.View.Epoch v59 hx60) ?_
   simp only [hg54,qe (g:=47),qv,j8,qb,ko,qw,zn,qa,qp,B0,reduceIte,a9]
   have e62:=qj hF61
   exact hN53 _ _ ⟨hS51,by rw [←e62]; simp only [B0,reduceIte,a9],f47,f48,f49⟩
 rintro fr63 h68 ⟨hS69,f64,f65,f66,f67⟩
 simp only [i0,i6]
 simp only [f64,qf,B0,reduceIte,a9]
 refine ji 8 (fun fr' h'=>Sep h' (geL h.length) ([])∧fr' 64 = .bool (v55||(decide ((f0 x7.Known:Int) ≠
   (f0 v_0.Nodes:Int))))∧fr' 1 = .int .i64 v_1∧fr' 2 = .ref [.int .i64 v_0.Truth.Epoch,.int .i64 v_0.Truth.Leader,lst cI v_0.Truth.InStep,
   lst qq v_0.Nodes,lst qg v_0.Acked] 0∧fr' 5 = .ref [.int .i64 x7.View.Epoch,.int .i64 x7.View.Leader,lst cI x7.View.InStep,lst qg x7.Log,
   lst cI x7.Known,.int .i64 x7.Told] 0) (fun Q70 hN71=>?_) ?_
 ·simp only [f4,i7]
  simp only [qe (g:=56),B0,reduceIte,a9]
  refine ze (t:=v55) (fun hg72=>?_) (fun hg72=>?_)
  ·simp only [hg72,qe (g:=56),jk,qw,qb,zo,qa,qp,B0,reduceIte,a9]
   exact hN71 _ _ ⟨hS69,by rw [orT hg72]; simp only [B0,reduceIte,a9],f65,f66,f67⟩
  ·simp only [hg72,qe (g:=56),qv,f67,qt,qb,d8,d9,e8,qs,qn,B0,reduceIte,a9]
   refine qh (v:=lst cI x7.Known) rfl ?_
   simp only [hg72,qe (g:=56),qv,zy,qb,jd,f66,qt,d8,d9,e8,qs,qn,B0,reduceIte,
     a9]
   refine qh (v:=lst qq v_0.Nodes) rfl ?_
   simp only [hg72,qe (g:=56),qv,zy,qb,jd,qz,ya,qw,zn,qa,qp,B0,reduceIte,a9]
   exact hN71 _ _ ⟨hS69,by rw [orF hg72]; simp only [B0,reduceIte,a9],f65,f66,f67⟩
 rintro fr73 h78 ⟨hS79,f74,f75,f76,f77⟩
 simp only [i0,i6]
 simp only [f74,qf,B0,reduceIte,a9]
 refine ji 4 (fun fr' h'=>Sep h' (geL h.length) ([])∧fr' 69 = .bool ((v55||(decide ((f0 x7.Known:Int)≠(f0 v_0.Nodes:Int))))||(decide
   (x7.Told<0)))∧fr' 1 = .int .i64 v_1∧fr' 2 = .ref [.int .i64 v_0.Truth.Epoch,.int .i64 v_0.Truth.Leader,lst cI v_0.Truth.InStep,lst qq v_0.Nodes,
   lst qg v_0.Acked] 0∧fr' 5 = .ref [.int .i64 x7.View.Epoch,.int .i64 x7.View.Leader,lst cI x7.View.InStep,lst qg x7.Log,lst cI x7.Known,
   .int .i64 x7.Told] 0) (fun Q80 hN81=>?_) ?_
 ·simp only [f4,i7]
  simp only [qe (g:=65),B0,reduceIte,a9]
  refine ze (t:=(v55||(decide ((f0 x7.Known:Int)≠(f0 v_0.Nodes:Int))))) (fun hg82=>?_) (fun hg82=>?_)
  ·simp only [hg82,qe (g:=65),jk,qw,qb,zo,qa,qp,B0,reduceIte,a9]
   exact hN81 _ _ ⟨hS79,by rw [orT hg82]; simp only [B0,reduceIte,a9],f75,f76,f77⟩
  ·simp only [hg82,qe (g:=65),qv,f77,qt,qb,d8,d9,e8,qs,qn,B0,reduceIte,a9]
   refine qh (v := .int .i64 x7.Told) rfl ?_
   simp only [hg82,qe (g:=65),qv,qz,qb,kq,qw,zn,qa,qp,B0,reduceIte,a9]
   exact hN81 _ _ ⟨hS79,by rw [orF hg82]; simp only [B0,reduceIte,a9],f75,f76,f77⟩
 rintro fr83 h88 ⟨hS89,f84,f85,f86,f87⟩
 simp only [i0,i6]
 simp only [f84,qf,B0,reduceIte,a9]
 refine ji 7 (fun fr' h'=>Sep h' (geL h.length) ([])∧fr' 77 = .bool (((v55||(decide ((f0 x7.Known:Int)≠(f0 v_0.Nodes:Int))))||(decide
   (x7.Told<0)))||(decide ((f0 x7.Log:Int)<x7.Told)))∧fr' 1 = .int .i64 v_1∧fr' 2 = .ref [.int .i64 v_0.Truth.Epoch,.int .i64 v_0.Truth.Leader,
   lst cI v_0.Truth.InStep,lst qq v_0.Nodes,lst qg v_0.Acked] 0∧fr' 5 = .ref [.int .i64 x7.View.Epoch,.int .i64 x7.View.Leader,lst cI x7.View.InStep,
   lst qg x7.Log,lst cI x7.Known,.int .i64 x7.Told] 0) (fun Q90 hN91=>?_) ?_
 ·simp only [f4,i7]
  simp only [qe (g:=70),B0,reduceIte,a9]
  refine ze (t:=((v55||(decide ((f0 x7.Known:Int)≠(f0 v_0.Nodes:Int))))||(decide (x7.Told<0)))) (fun hg92=>?_) (fun hg92=>?_)
  ·simp only [hg92,qe (g:=70),jk,qw,qb,zo,qa,qp,B0,reduceIte,a9]
   exact hN91 _ _ ⟨hS89,by rw [orT hg92]; simp only [B0,reduceIte,a9],f85,f86,f87⟩
  ·simp only [hg92,qe (g:=70),qv,f87,qt,qb,d8,d9,e8,qs,qn,B0,reduceIte,a9]
   refine qh (v := .int .i64 x7.Told) rfl ?_
   simp only [hg92,qe (g:=70),qv,f87,qt,qb,d8,d9,e8,qs,qn,B0,reduceIte,a9]
   refine qh (v:=lst qg x7.Log) rfl ?_
   simp only [hg92,qe (g:=70),qv,zy,qb,jd,qz,qf6,qw,zn,qa,qp,B0,reduceIte,a9]
   exact hN91 _ _ ⟨hS89,by rw [orF hg92]; simp only [B0,reduceIte,a9],f85,f86,f87⟩
 rintro fr93 h98 ⟨hS99,f94,f95,f96,f97⟩
 simp only [i0,i6]
 simp only [qa,f94,q9,B0,reduceIte,a9]
 refine qy (t:=(((v55||(decide ((f0 x7.Known:Int)≠(f0 v_0.Nodes:Int))))||(decide (x7.Told<0)))||(decide
   ((f0 x7.Log:Int)<x7.Told)))) (fun hc100=>?_) (fun hc100=>?_)
 ·rw [iteT hc100] at hF57
  simp only [qc,qd,qf,qa,qx,B0,reduceIte,a9]
  have he:=qj hF57
  subst he
  simp only [q8,B0,reduceIte,a9]
  exact rfl
 rw [iteF hc100] at hF57
 simp only [zh,q7v,qc,qd,f97,qt,qb,d8,d9,e8,qs,qn,B0,reduceIte,a9]
 refine qh (v:=lst cI x7.Known) rfl ?_
 simp only [zy,qb,jd,qf,qa,B0,reduceIte,a9]
 obtain ⟨oc103,hX105,hk106⟩:=ka hF57
 simp only [q05]
 refine wv (σ:=Unit) x7.Known (fun i101 u7 _=>qcv v_0 v_1 x7 i101 u7 ) (fun s fr' h'=>fr' 1 = .int .i64 v_1∧fr' 2 = .ref [.int .i64 v_0.Truth.Epoch,
   .int .i64 v_0.Truth.Leader,lst cI v_0.Truth.InStep,lst qq v_0.Nodes,lst qg v_0.Acked] 0∧fr' 5 = .ref [.int .i64 x7.View.Epoch,.int .i64 x7.View.Leader,
   lst cI x7.View.InStep,lst qg x7.Log,lst cI x7.Known,.int .i64 x7.Told] 0∧fr' 79=lst cI x7.Known∧Sep h' (geL h.length) ([])) hX105 ⟨f95,f96,f97,rfl,
   hS99⟩ (by simp only [B0,reduceIte,a9]) (by simp only [B0,reduceIte,
   a9]) (fun _ _ _ h=>h) rfl rfl (fun _ _ _ _ h=>h) (fun _ _ _ _ h=>h) (fun _ _ _ _ h=>h) (by decide) ?_ ?_
 ·rintro i101 u7 _ fr115 h116 hx122 ⟨f118,f119,f120,f121,hS117⟩ f123 f124 oc104 hF107 hr108 Q109 hN110 hB114 hK111 hR112 hE113
  unfold qcv at hF107
  simp only [q4q,qc,qd,f121,f123,jl,B0,reduceIte,a9]
  refine qh (v := .ref (cI u7) 0) (wx hx122 rfl) ?_
  simp only [qn,B0,reduceIte,a9]
  refine qh (v := .int .i64 u7) rfl ?_
  simp only [qf,qa,q7t,qc,qd,qz,qb,kq,B0,reduceIte,a9]
  refine ji 6 (fun fr' h'=>Sep h' (geL h.length) ([])∧fr' 93 = .bool ((decide (u7<0))||(decide
    ((f0 x7.Log:Int)<u7)))∧fr' 1 = .int .i64 v_1∧fr' 2 = .ref [.int .i64 v_0.Truth.Epoch,.int .i64 v_0.Truth.Leader,lst cI v_0.Truth.InStep,
    lst qq v_0.Nodes,lst qg v_0.Acked] 0∧fr' 5 = .ref [.int .i64 x7.View.Epoch,.int .i64 x7.View.Leader,lst cI x7.View.InStep,lst qg x7.Log,
    lst cI x7.Known,.int .i64 x7.Told] 0∧fr' 7 = .int .i64 u7∧fr' 79=lst cI x7.Known∧fr' 80 = .int .i64 (f0 x7.Known:Int)∧fr' 81 = .int .i64
    (i101:Int)) (fun Q125 hN126=>?_) ?_
  ·simp only [f4,i7]
   simp only [qe (g:=87),B0,reduceIte,a9]
   refine ze (t:=(decide (u7<0))) (fun hg127=>?_) (fun hg127=>?_)
   ·simp only [hg127,qe (g:=87),jk,qw,qb,zo,qa,qp,B0,reduceIte,a9]
    exact hN126 _ _ ⟨hS117,by rw [orT hg127]; simp only [B0,reduceIte,a9],f118,f119,f120,rfl,f121,f124,f123⟩
   ·simp only [hg127,qe (g:=87),qv,qf,f120,qt,qb,d8,d9,e8,qs,qn,B0,reduceIte,
     a9]
    refine qh (v:=lst qg x7.Log) rfl ?_
    simp only [hg127,qe (g:=87),qv,zy,qb,jd,qz,qf6,qw,zn,qa,qp,B0,reduceIte,a9]
    exact hN126 _ _ ⟨hS117,by rw [orF hg127]; simp only [B0,reduceIte,a9],f118,f119,f120,rfl,f121,f124,f123⟩
  rintro fr128 h137 ⟨hS138,f129,f130,f131,f132,f133,f134,f135,f136⟩
  simp only [i0,i6]
  simp only [f129,qf,B0,reduceIte,a9]
  obtain ⟨v142,hx143,hF144⟩:=qk hF107
  refine ji 9 (fun fr' h'=>Sep h' (geL h.length) ([])∧fr' 103 = .bool v142∧fr' 1 = .int .i64 v_1∧fr' 2 = .ref [.int .i64 v_0.Truth.Epoch,.int .i64 v_0.Truth.Leader,
    lst cI v_0.Truth.InStep,lst qq v_0.Nodes,lst qg v_0.Acked] 0∧fr' 5 = .ref [.int .i64 x7.View.Epoch,.int .i64 x7.View.Leader,lst cI x7.View.InStep,
    lst qg x7.Log,lst cI x7.Known,
    .int .i64 x7.Told] 0∧fr' 79=lst cI x7.Known∧fr' 80 = .int .i64 (f0 x7.Known:Int)∧fr' 81 = .int .i64 (i101:Int)) (fun Q139 hN140=>?_) ?_
  ·simp only [f4,i7]
   simp only [qe (g:=94),B0,reduceIte,a9]
   refine ze (t:=((decide (u7<0))||(decide ((f0 x7.Log:Int)<u7)))) (fun hg141=>?_) (fun hg141=>?_)
   ·rw [iteT hg141] at hx143
    simp only [hg141,qe (g:=94),jk,qe (g:=99),xh,qw,qb,zo,qa,qp,B0,reduceIte,a9]
    have e145:=qj hx143
    exact hN140 _ _ ⟨hS138,by rw [←e145]; simp only [B0,reduceIte,a9],f130,f131,f132,f134,f135,f136⟩
   ·rw [iteF hg141] at hx143
    simp only [hg141,qe (g:=94),qv,f131,qn,B0,reduceIte,a9]
    refine qh (v := .agg [.int .i64 v_0.Truth.Epoch,.int .i64 v_0.Truth.Leader,lst cI v_0.Truth.InStep,lst qq v_0.Nodes,lst qg v_0.Acked]) rfl ?_
    obtain ⟨v146,hx147,hF148⟩:=qk hx143
    simp only [hg141,qe (g:=94),qv,f130,qf,zg,B0,reduceIte,a9]
    refine jo rfl (qi (zv (qi qo (qi qo (qi zk (qi zk (qi zk zc)))))) (qi qo zc)) (qeg
      (fun b hb=>decide_eq_true hb) v_0 v_1 v146 hx147) ?_
    simp only [hg141,qe (g:=94),qv,j8,qb,ko,qf,B0,reduceIte,a9]
    refine ji 3 (fun fr' h'=>Sep h' (geL h.length) ([])∧fr' 102 = .bool ((!v146)&&(decide
      (u7≠0)))∧fr' 1 = .int .i64 v_1∧fr' 2 = .ref [.int .i64 v_0.Truth.Epoch,.int .i64 v_0.Truth.Leader,lst cI v_0.Truth.InStep,lst qq v_0.Nodes,
      lst qg v_0.Acked] 0∧fr' 5 = .ref [.int .i64 x7.View.Epoch,.int .i64 x7.View.Leader,lst cI x7.View.InStep,lst qg x7.Log,lst cI x7.Known,
      .int .i64 x7.Told] 0∧fr' 79=lst cI x7.Known∧fr' 80 = .int .i64 (f0 x7.Known:Int)∧fr' 81 = .int .i64 (i101:Int)∧fr' 94 = .bool ((decide
      (u7<0))||(decide ((f0 x7.Log:Int)<u7)))) (fun Q149 hN150=>?_) ?_
    ·simp only [f4,i7]
     simp only [qe (g:=99),B0,reduceIte,a9]
     refine ze (t:=(!v146)) (fun hg151=>?_) (fun hg151=>?_)
     ·simp only [hg151,qe (g:=99),zi,f133,qf,qz,qb,ya,hg141,qe (g:=94),qv,qw,zo,qa,
       qp,B0,reduceIte,a9]
      exact hN150 _ _ ⟨hS138,by rw [yb hg151]; simp only [B0,reduceIte,a9],f130,f131,f132,f134,f135,f136,by simp only [hg141,B0,reduceIte,
        a9]⟩
     ·simp only [hg151,qe (g:=99),jj,hg141,qe (g:=94),qv,qw,qb,zn,qa,qp,B0,reduceIte,
       a9]
      exact hN150 _ _ ⟨hS138,by rw [yd hg151]; simp only [B0,reduceIte,a9],f130,f131,f132,f134,f135,f136,by simp only [hg141,B0,reduceIte,
        a9]⟩
    rintro fr152 h161 ⟨hS162,f153,f154,f155,f156,f157,f158,f159,f160⟩
    simp only [i0,i6]
    simp only [f160,hg141,qw,qb,zn,f153,qa,qp,B0,reduceIte,a9]
    have e163:=qj hF148
    exact hN140 _ _ ⟨hS162,by rw [←e163]; simp only [B0,reduceIte,a9],f154,f155,f156,f157,f158,f159⟩
  rintro fr164 h172 ⟨hS173,f165,f166,f167,f168,f169,f170,f171⟩
  simp only [i0,i6]
  simp only [qa,f165,q9,B0,reduceIte,a9]
  refine qy (t:=v142) (fun hc174=>?_) (fun hc174=>?_)
  ·rw [iteT hc174] at hF144
   simp only [qc,qd,qf,qa,qx,B0,reduceIte,a9]
   have e175:=qj hF144
   subst e175
   have ho176:=hr108 _ rfl
   have hk177:=hk106
   rw [ho176] at hk177
   dsimp only [jnO] at hk177
   apply hR112
   have he:=qj hk177
   subst he
   simp only [q8,B0,reduceIte,a9]
   exact rfl
  rw [iteF hc174] at hF144
  simp only [zh,qp,B0,reduceIte,a9]
  have e178:=qj hF144
  exact hN110 _ _ _ e178.symm ⟨f166,f167,f168,f169,hS173⟩ (f171) (f170)
 rintro _ fr180 h181 rfl ⟨f183,f184,f185,f186,hS182⟩
 dsimp only [jnO] at hk106
 unfold qe0 at hk106
 simp only [q3q,qc,js,f184,jb,ql,d8,d9,e8,qs,zt,B0,reduceIte,a9]
 refine qu (v:=lst cI v_0.Truth.InStep) rfl ?_
 obtain ⟨v187,hx188,hF189⟩:=qk hk106
 simp only [f183,zr,ql,ki,B0,reduceIte,a9]
 refine uy rfl (qi zk (qi qo zc)) (qdc (fun b hb=>decide_eq_true hb) v_0.Truth.InStep v_1 v187 hx188) ?_
 simp only [qcx,ql,ko,zr,B0,reduceIte,a9]
 simp only [qr (g:=111),B0,reduceIte,a9]
 refine jm (t:=(!v187)) (fun hg190=>?_) (fun hg190=>?_)
 ·rw [iteT hg190] at hF189
  simp only [hg190,qr (g:=111),wo,jh,ql,zo,zr,za,qx,B0,reduceIte,a9]
  have he:=qj hF189
  subst he
  simp only [q8,B0,reduceIte,a9]
  exact rfl
 rw [iteF hg190] at hF189
 simp only [hg190,qr (g:=111),zz,f184,jb,ql,d8,d9,e8,qs,zt,B0,reduceIte,a9]
 refine qu (v:=lst qg v_0.Acked) rfl ?_
 simp only [hg190,qr (g:=111),zz,f185,jb,ql,d8,d9,e8,qs,zt,B0,reduceIte,a9]
 refine qu (v:=lst qg x7.Log) rfl ?_
 obtain ⟨v191,hx192,hF193⟩:=qk hF189
 simp only [hg190,qr (g:=111),zz,wg,B0,reduceIte,a9]
 refine qkf rfl (qi zk (qi zk zc)) (qio (fun b hb=>decide_eq_true hb) k v_0.Acked x7.Log v191 hx192) ?_
 simp only [hg190,qr (g:=111),zz,f184,qb2,ql,d8,d9,e8,qs,w9,xy,B0,reduceIte,a9]
 refine qu (v:=lst qg v_0.Acked) rfl ?_
 simp only [hg190,qr (g:=111),zz,qvb,ql,jd,k5,k6,jh,zn,zr,za,qx,B0,reduceIte,a9]
 have he:=qj hF193
 subst he
 simp only [q8,B0,reduceIte,a9]
 exact rfl
theorem qfs {W:Nat→Bool}{h:Heap} (hW:∀ b,
  (geL h.length) b→W b=true) (k:Nat) (c_0:Cluster) (r:Bool) (hF:xz k c_0=some r) : Ret E W 15 [.agg [.int .i64 c_0.Truth.Epoch,
  .int .i64 c_0.Truth.Leader,lst cI c_0.Truth.InStep,lst qq c_0.Nodes,lst qg c_0.Acked]] h (fun v h'=>cut h.length h' E.sz false 9 v=some (.bool r)):=by
 refine Ret.of (fn:=x15) rfl (Run.of ?_)
 unfold xz at hF
 have zf0:zb [.agg [.int .i64 c_0.Truth.Epoch,.int .i64 c_0.Truth.Leader,lst cI c_0.Truth.InStep,lst qq c_0.Nodes,
   lst qg c_0.Acked]] 0 = .agg [.int .i64 c_0.Truth.Epoch,.int .i64 c_0.Truth.Leader,lst cI c_0.Truth.InStep,lst qq c_0.Nodes,lst qg c_0.Acked]:=rfl
 generalize zb [.agg [.int .i64 c_0.Truth.Epoch,.int .i64 c_0.Truth.Leader,lst cI c_0.Truth.InStep,lst qq c_0.Nodes,lst qg c_0.Acked]]=fr0 at zf0 ⊢
 have hS:Sep h (geL h.length) []:=a0k h
 simp only [x15,qc,qd,jp,zf0,B0,reduceIte,a9]
 refine je (cs:=[.int .i64 c_0.Truth.Epoch,.int .i64 c_0.Truth.Leader,lst cI c_0.Truth.InStep,lst qq c_0.Nodes,
   lst qg c_0.Acked]) hS rfl rfl rfl (fun b1 h2 hS3=>?_)
 simp only [qf,qa,B0,reduceIte,a9]
 refine zx hS3 hW (by simp only [B0,reduceIte,a9]) (fun h5 hS6=>?_)
 simp only [zw,q3i,qc,qd,qt,qb,d8,d9,e8,qs,qn,B0,reduceIte,a9]
 refine qh (v:=lst qq c_0.Nodes) rfl ?_
 simp only [zy,qb,jd,qf,qa,q49,qc,qd,zg,B0,reduceIte,a9]
 refine jo rfl (qi qo (qi qo (qi qo zc))) (qbi (fun b hb=>decide_eq_true hb) (f0 c_0.Nodes:Int) 2 4 _ rfl) ?_
 simp only [j8,qb,ko,qf,B0,reduceIte,a9]
 obtain ⟨v10,hx11,hF12⟩:=qk hF
 refine ji 6 (fun fr' h'=>Sep h' (geL h.length) ([])∧fr' 17 = .bool v10∧fr' 1 = .ref [.int .i64 c_0.Truth.Epoch,.int .i64 c_0.Truth.Leader,lst cI c_0.Truth.InStep,
   lst qq c_0.Nodes,lst qg c_0.Acked] 0) (fun Q7 hN8=>?_) ?_
 ·simp only [f4,i7]
  simp only [qe (g:=11),B0,reduceIte,a9]
  refine ze (t:=(!(ju (f0 c_0.Nodes:Int) 2 4))) (fun hg9=>?_) (fun hg9=>?_)
  ·rw [iteT hg9] at hx11
   simp only [hg9,qe (g:=11),jk,qw,qb,zo,qa,qp,B0,reduceIte,a9]
   have e13:=qj hx11
   exact hN8 _ _ ⟨hS6,by rw [←e13]; simp only [B0,reduceIte,a9],rfl⟩
  ·rw [iteF hg9] at hx11
   simp only [hg9,qe (g:=11),qv,qt,qb,d8,d9,e8,qs,qn,B0,reduceIte,a9]
   refine qh (v := .agg [.int .i64 c_0.Truth.Epoch,.int .i64 c_0.Truth.Leader,lst cI c_0.Truth.InStep]) rfl ?_
   obtain ⟨v14,hx15,hF16⟩:=qk hx11
   simp only [hg9,qe (g:=11),qv,qf,zg,B0,reduceIte,a9]
   refine jo rfl (qi (zv (qi qo (qi qo (qi zk zc)))) (qi qo zc)) (qil
     (fun b hb=>decide_eq_true hb) c_0.Truth (f0 c_0.Nodes:Int) v14 hx15) ?_
   simp only [hg9,qe (g:=11),qv,j8,qb,ko,qw,zn,qa,qp,B0,reduceIte,a9]
   have e17:=qj hF16
   exact hN8 _ _ ⟨hS6,by rw [←e17]; simp only [B0,reduceIte,a9],rfl⟩
 rintro fr18 h21 ⟨hS22,f19,f20⟩
 simp only [i0,i6]
 simp only [f19,qf,B0,reduceIte,a9]
 obtain ⟨v26,hx27,hF28⟩:=qk hF12
 refine ji 5 (fun fr' h'=>Sep h' (geL h.length) ([])∧fr' 23 = .bool v26∧fr' 1 = .ref [.int .i64 c_0.Truth.Epoch,.int .i64 c_0.Truth.Leader,lst cI c_0.Truth.InStep,
   lst qq c_0.Nodes,lst qg c_0.Acked] 0) (fun Q23 hN24=>?_) ?_
 ·simp only [f4,i7]
  simp only [qe (g:=18),B0,reduceIte,a9]
  refine ze (t:=v10) (fun hg25=>?_) (fun hg25=>?_)
  ·rw [iteT hg25] at hx27
   simp only [hg25,qe (g:=18),jk,qw,qb,zo,qa,qp,B0,reduceIte,a9]
   have e29:=qj hx27
   exact hN24 _ _ ⟨hS22,by rw [←e29]; simp only [B0,reduceIte,a9],f20⟩
  ·rw [iteF hg25] at hx27
   simp only [hg25,qe (g:=18),qv,f20,qt,qb,d8,d9,e8,qs,qn,B0,reduceIte,a9]
   refine qh (v:=lst qg c_0.Acked) rfl ?_
   obtain ⟨v30,hx31,hF32⟩:=qk hx27
   simp only [hg25,qe (g:=18),qv,zg,B0,reduceIte,a9]
   refine jo rfl (qi zk (qi qo zc)) (qjd (fun b hb=>decide_eq_true hb) c_0.Acked 100 v30 hx31) ?_
   simp only [hg25,qe (g:=18),qv,j8,qb,ko,qw,zn,qa,qp,B0,reduceIte,a9]
   have e33:=qj hF32
   exact hN24 _ _ ⟨hS22,by rw [←e33]; simp only [B0,reduceIte,a9],f20⟩
 rintro fr34 h37 ⟨hS38,f35,f36⟩
 simp only [i0,i6]
 simp only [qa,f35,q9,B0,reduceIte,a9]
 refine qy (t:=v26) (fun hc39=>?_) (fun hc39=>?_)
 ·rw [iteT hc39] at hF28
  simp only [qc,qd,qf,qa,qx,B0,reduceIte,a9]
  have he:=qj hF28
  subst he
  simp only [q8,B0,reduceIte,a9]
  exact rfl
 rw [iteF hc39] at hF28
 simp only [zh,q1v,qc,qd,f36,qt,qb,d8,d9,e8,qs,qn,B0,reduceIte,a9]
 refine qh (v:=lst qq c_0.Nodes) rfl ?_
 simp only [zy,qb,jd,qf,qa,B0,reduceIte,a9]
 obtain ⟨oc42,hX44,hk45⟩:=ka hF28
 simp only [qyq]
 refine qgo (σ:=Unit) (fun i40 _=>qas k c_0 i40 ) (fun s fr' h'=>fr' 1 = .ref [.int .i64 c_0.Truth.Epoch,.int .i64 c_0.Truth.Leader,
   lst cI c_0.Truth.InStep,lst qq c_0.Nodes,lst qg c_0.Acked] 0∧Sep h' (geL h.length) ([])) hX44 ⟨f36,hS38⟩ (by simp only [B0,reduceIte,
   a9]) (by simp only [B0,reduceIte,a9]) (fun _ _ _ h=>h) rfl rfl (fun _ _ _ _ h=>h) (fun _ _ _ _ h=>h) (fun _ _ _ _ h=>h) (by decide) ?_ ?_
 ·rintro i40 _ fr54 h55 hx58 ⟨f57,hS56⟩ f59 f60 oc43 hF46 hr47 Q48 hN49 hB53 hK50 hR51 hE52
  unfold qas at hF46
  simp only [q5m,qc,qd,f59,qf,qa,q26,f57,qn,B0,reduceIte,a9]
  refine qh (v := .agg [.int .i64 c_0.Truth.Epoch,.int .i64 c_0.Truth.Leader,lst cI c_0.Truth.InStep,lst qq c_0.Nodes,lst qg c_0.Acked]) rfl ?_
  obtain ⟨v61,hx62,hF63⟩:=qk hF46
  simp only [qf,zg,B0,reduceIte,a9]
  refine jo rfl (qi (zv (qi qo (qi qo (qi zk (qi zk (qi zk zc)))))) (qi qo zc)) (qmw
    (fun b hb=>decide_eq_true hb) k c_0 (i40:Int) v61 hx62) ?_
  simp only [j8,qb,ko,qa,q9,B0,reduceIte,a9]
  refine qy (t:=(!v61)) (fun hc64=>?_) (fun hc64=>?_)
  ·rw [iteT hc64] at hF63
   simp only [qc,qd,qf,qa,qx,B0,reduceIte,a9]
   have e65:=qj hF63
   subst e65
   have ho66:=hr47 _ rfl
   have hk67:=hk45
   rw [ho66] at hk67
   dsimp only [jnO] at hk67
   apply hR51
   have he:=qj hk67
   subst he
   simp only [q8,B0,reduceIte,a9]
   exact rfl
  rw [iteF hc64] at hF63
  simp only [zh,qp,B0,reduceIte,a9]
  have e68:=qj hF63
  exact hN49 _ _ _ e68.symm ⟨f57,hS56⟩ (f59) (f60)
 rintro _ fr70 h71 rfl ⟨f73,hS72⟩
 dsimp only [jnO] at hk45
 unfold qe4 at hk45
 simp only [qc,qd,qf,qa,qx,B0,reduceIte,a9]
 have he:=qj hk45
 subst he
 simp only [q8,B0,reduceIte,a9]
 exact rfl
theorem qpx {W:Nat→Bool}{h:Heap} (hW:∀ b,
  (geL h.length) b→W b=true) (a_0:List Int) (b_1:List Int) (r:Bool) (hF:qgb a_0 b_1=some r) : Ret E W 97 [lst cI a_0,
  lst cI b_1] h (fun v h'=>cut h.length h' E.sz false 9 v=some (.bool r)):=by
 refine Ret.of (fn:=x97) rfl (Run.of ?_)
 unfold qgb at hF
 have zf0:zb [lst cI a_0,lst cI b_1] 0=lst cI a_0:=rfl
 have zf1:zb [lst cI a_0,lst cI b_1] 1=lst cI b_1:=rfl
 generalize zb [lst cI a_0,lst cI b_1]=fr0 at zf0 zf1 ⊢
 have hS:Sep h (geL h.length) []:=a0k h
 simp only [x97,qc,qd,qf,qa,q1j,zf1,zy,qb,jd,B0,reduceIte,a9]
 obtain ⟨oc3,hX5,hk6⟩:=ka hF
 simp only [q24]
 refine wv (σ:=Unit) b_1 (fun i1 x2 _=>qd6 a_0 i1 x2 ) (fun s fr' h'=>fr' 0=lst cI a_0∧fr' 7=lst cI b_1∧Sep h' (geL h.length) ([])) hX5 ⟨zf0,rfl,
   hS⟩ (by simp only [B0,reduceIte,a9]) (by simp only [B0,reduceIte,
   a9]) (fun _ _ _ h=>h) rfl rfl (fun _ _ _ _ h=>h) (fun _ _ _ _ h=>h) (fun _ _ _ _ h=>h) (by decide) ?_ ?_
 ·rintro i1 x2 _ fr15 h16 hx20 ⟨f18,f19,hS17⟩ f21 f22 oc4 hF7 hr8 Q9 hN10 hB14 hK11 hR12 hE13
  unfold qd6 at hF7
  simp only [qzw,qc,qd,f19,f21,jl,B0,reduceIte,a9]
  refine qh (v := .ref (cI x2) 0) (wx hx20 rfl) ?_
  simp only [qn,B0,reduceIte,a9]
  refine qh (v := .int .i64 x2) rfl ?_
  obtain ⟨v23,hx24,hF25⟩:=qk hF7
  simp only [qf,qa,q3y,qc,qd,f18,zg,B0,reduceIte,a9]
  refine jo rfl (qi zk (qi qo zc)) (qdc (fun b hb=>decide_eq_true hb) a_0 x2 v23 hx24) ?_
  simp only [j8,qb,ko,qa,q9,B0,reduceIte,a9]
  refine qy (t:=(!v23)) (fun hc26=>?_) (fun hc26=>?_)
  ·rw [iteT hc26] at hF25
   simp only [qc,qd,qf,qa,qx,B0,reduceIte,a9]
   have e27:=qj hF25
   subst e27
   have ho28:=hr8 _ rfl
   have hk29:=hk6
   rw [ho28] at hk29
   dsimp only [jnO] at hk29
   apply hR12
   have he:=qj hk29
   subst he
   simp only [q8,B0,reduceIte,a9]
   exact rfl
  rw [iteF hc26] at hF25
  simp only [zh,qp,B0,reduceIte,a9]
  have e30:=qj hF25
  exact hN10 _ _ _ e30.symm ⟨f18,f19,hS17⟩ (f21) (f22)
 rintro _ fr32 h33 rfl ⟨f35,f36,hS34⟩
 dsimp only [jnO] at hk6
 unfold qjc at hk6
 simp only [qc,qd,qf,qa,qx,B0,reduceIte,a9]
 have he:=qj hk6
 subst he
 simp only [q8,B0,reduceIte,a9]
 exact rfl
theorem qnf {W:Nat→Bool}{h:Heap} (hW:∀ b,
  (geL h.length) b→W b=true) (a_0:List Int) (b_1:List Int) (r:Bool) (hF:qc5 a_0 b_1=some r) : Ret E W 82 [lst cI a_0,
  lst cI b_1] h (fun v h'=>cut h.length h' E.sz false 9 v=some (.bool r)):=by
 refine Ret.of (fn:=x82) rfl (Run.of ?_)
 unfold qc5 at hF
 have zf0:zb [lst cI a_0,lst cI b_1] 0=lst cI a_0:=rfl
 have zf1:zb [lst cI a_0,lst cI b_1] 1=lst cI b_1:=rfl
 generalize zb [lst cI a_0,lst cI b_1]=fr0 at zf0 zf1 ⊢
 have hS:Sep h (geL h.length) []:=a0k h
 obtain ⟨v1,hx2,hF3⟩:=qk hF
 simp only [x82,qc,qd,qf,qa,q1a,zf0,zf1,zg,B0,reduceIte,a9]
 refine jo rfl (qi zk (qi zk zc)) (qpx (fun b hb=>decide_eq_true hb) a_0 b_1 v1 hx2) ?_
 simp only [qf,B0,reduceIte,a9]
 refine ji 6 (fun fr' h'=>Sep h' (geL h.length) ([])∧fr' 14 = .bool (v1&&(decide ((f0 a_0:Int)=(f0 b_1:Int))))) (fun Q4 hN5=>?_) ?_
 ·simp only [f4,i7]
  simp only [qe (g:=8),B0,reduceIte,a9]
  refine ze (t:=v1) (fun hg6=>?_) (fun hg6=>?_)
  ·simp only [hg6,qe (g:=8),zi,zf0,qf,zy,qb,jd,zf1,qz,k6,qw,zo,qa,qp,B0,reduceIte,
    a9]
   exact hN5 _ _ ⟨hS,by rw [yb hg6]; simp only [B0,reduceIte,a9]⟩
  ·simp only [hg6,qe (g:=8),jj,qw,qb,zn,qa,qp,B0,reduceIte,a9]
   exact hN5 _ _ ⟨hS,by rw [yd hg6]; simp only [B0,reduceIte,a9]⟩
 rintro fr7 h9 ⟨hS10,f8⟩
 simp only [i0,i6]
 simp only [f8,qf,qa,qx,B0,reduceIte,a9]
 have he:=qj hF3
 subst he
 simp only [q8,B0,reduceIte,a9]
 exact rfl
theorem qm4 {W:Nat→Bool}{h:Heap} (hW:∀ b,
  (geL h.length) b→W b=true) (a_0:View) (b_1:View) (r:Bool) (hF:qc1 a_0 b_1=some r) : Ret E W 61 [.agg [.int .i64 a_0.Epoch,.int .i64 a_0.Leader,
  lst cI a_0.InStep],.agg [.int .i64 b_1.Epoch,.int .i64 b_1.Leader,lst cI b_1.InStep]] h (fun v h'=>cut h.length h' E.sz false 9 v=some (.bool r)):=by
 refine Ret.of (fn:=x61) rfl (Run.of ?_)
 unfold qc1 at hF
 have zf0:zb [.agg [.int .i64 a_0.Epoch,.int .i64 a_0.Leader,lst cI a_0.InStep],.agg [.int .i64 b_1.Epoch,.int .i64 b_1.Leader,
   lst cI b_1.InStep]] 0 = .agg [.int .i64 a_0.Epoch,.int .i64 a_0.Leader,lst cI a_0.InStep]:=rfl
 have zf1:zb [.agg [.int .i64 a_0.Epoch,.int .i64 a_0.Leader,lst cI a_0.InStep],.agg [.int .i64 b_1.Epoch,.int .i64 b_1.Leader,
   lst cI b_1.InStep]] 1 = .agg [.int .i64 b_1.Epoch,.int .i64 b_1.Leader,lst cI b_1.InStep]:=rfl
 generalize zb [.agg [.int .i64 a_0.Epoch,.int .i64 a_0.Leader,lst cI a_0.InStep],.agg [.int .i64 b_1.Epoch,.int .i64 b_1.Leader,lst cI b_1.InStep]]=fr0 at zf0 zf1 ⊢
 have hS:Sep h (geL h.length) []:=a0k h
 simp only [x61,qc,qd,jp,zf0,B0,reduceIte,a9]
 refine je (cs:=[.int .i64 a_0.Epoch,.int .i64 a_0.Leader,lst cI a_0.InStep]) hS rfl rfl rfl (fun b1 h2 hS3=>?_)
 simp only [jp,zf1,B0,reduceIte,a9]
 refine je (cs:=[.int .i64 b_1.Epoch,.int .i64 b_1.Leader,lst cI b_1.InStep]) hS3 rfl rfl rfl (fun b5 h6 hS7=>?_)
 simp only [qf,qa,B0,reduceIte,a9]
 refine zx (n7 hS7) hW (by simp only [B0,reduceIte,a9]) (fun h9 hS10=>?_)
 refine zx hS10 hW (by simp only [B0,reduceIte,a9]) (fun h11 hS12=>?_)
 simp only [zw,q4f,qc,qd,qt,qb,d8,d9,e8,qs,qn,B0,reduceIte,a9]
 refine qh (v := .int .i64 a_0.Epoch) rfl ?_
 simp only [qt,qb,d8,d9,e8,qs,qn,B0,reduceIte,a9]
 refine qh (v := .int .i64 b_1.Epoch) rfl ?_
 simp only [qz,qb,k6,qf,B0,reduceIte,a9]
 refine ji 6 (fun fr' h'=>Sep h' (geL h.length) ([])∧fr' 16 = .bool ((decide (a_0.Epoch=b_1.Epoch))&&(decide
   (a_0.Leader=b_1.Leader)))∧fr' 2 = .ref [.int .i64 a_0.Epoch,.int .i64 a_0.Leader,lst cI a_0.InStep] 0∧fr' 3 = .ref [.int .i64 b_1.Epoch,.int .i64 b_1.Leader,
   lst cI b_1.InStep] 0) (fun Q13 hN14=>?_) ?_
 ·simp only [f4,i7]
  simp only [qe (g:=10),B0,reduceIte,a9]
  refine ze (t:=(decide (a_0.Epoch=b_1.Epoch))) (fun hg15=>?_) (fun hg15=>?_)
  ·simp only [hg15,qe (g:=10),zi,qt,qb,d8,d9,e8,qs,qn,B0,reduceIte,a9]
   refine qh (v := .int .i64 a_0.Leader) rfl ?_
   simp only [hg15,qe (g:=10),zi,qt,qb,d8,d9,e8,qs,qn,B0,reduceIte,a9]
   refine qh (v := .int .i64 b_1.Leader) rfl ?_
   simp only [hg15,qe (g:=10),zi,qz,qb,k6,qw,zo,qa,qp,B0,reduceIte,a9]
   exact hN14 _ _ ⟨hS12,by rw [yb hg15]; simp only [B0,reduceIte,a9],rfl,rfl⟩
  ·simp only [hg15,qe (g:=10),jj,qw,qb,zn,qa,qp,B0,reduceIte,a9]
   exact hN14 _ _ ⟨hS12,by rw [yd hg15]; simp only [B0,reduceIte,a9],rfl,rfl⟩
 rintro fr16 h20 ⟨hS21,f17,f18,f19⟩
 simp only [i0,i6]
 simp only [f17,qf,B0,reduceIte,a9]
 obtain ⟨v25,hx26,hF27⟩:=qk hF
 refine ji 6 (fun fr' h'=>Sep h' (geL h.length) ([])∧fr' 23 = .bool v25) (fun Q22 hN23=>?_) ?_
 ·simp only [f4,i7]
  simp only [qe (g:=17),B0,reduceIte,a9]
  refine ze (t:=((decide (a_0.Epoch=b_1.Epoch))&&(decide (a_0.Leader=b_1.Leader)))) (fun hg24=>?_) (fun hg24=>?_)
  ·rw [iteT hg24] at hx26
   simp only [hg24,qe (g:=17),zi,f18,qt,qb,d8,d9,e8,qs,qn,B0,reduceIte,a9]
   refine qh (v:=lst cI a_0.InStep) rfl ?_
   simp only [hg24,qe (g:=17),zi,f19,qt,qb,d8,d9,e8,qs,qn,B0,reduceIte,a9]
   refine qh (v:=lst cI b_1.InStep) rfl ?_
   obtain ⟨v28,hx29,hF30⟩:=qk hx26
   simp only [hg24,qe (g:=17),zi,zg,B0,reduceIte,a9]
   refine jo rfl (qi zk (qi zk zc)) (qnf (fun b hb=>decide_eq_true hb) a_0.InStep b_1.InStep v28 hx29) ?_
   simp only [hg24,qw,qb,zo,qa,qp,B0,reduceIte,a9]
   have e31:=qj hF30
   exact hN23 _ _ ⟨hS21,by rw [←e31]; simp only [B0,reduceIte,a9]⟩
  ·rw [iteF hg24] at hx26
   simp only [hg24,qe (g:=17),jj,qw,qb,zn,qa,qp,B0,reduceIte,a9]
   have e32:=qj hx26
   exact hN23 _ _ ⟨hS21,by rw [←e32]; simp only [B0,reduceIte,a9]⟩
 rintro fr33 h35 ⟨hS36,f34⟩
 simp only [i0,i6]
 simp only [f34,qf,qa,qx,B0,reduceIte,a9]
 have he:=qj hF27
 subst he
 simp only [q8,B0,reduceIte,a9]
 exact rfl
theorem qdt {W:Nat→Bool}{h:Heap} (hW:∀ b,
  (geL h.length) b→W b=true) (v_0:View) (r:View) (hF:w8 v_0=some r) : Ret E W 89 [.agg [.int .i64 v_0.Epoch,.int .i64 v_0.Leader,
  lst cI v_0.InStep]] h (fun v h'=>∃ rv0_2 rc0_2,v = .agg [.int .i64 r.Epoch,.int .i64 r.Leader,
  rv0_2]∧SlF cI 1 3 rv0_2 r.InStep rc0_2∧Sep h' (geL h.length) (rc0_2++([]))):=by
 refine Ret.of (fn:=x89) rfl (Run.of ?_)
 unfold w8 at hF
 have zf0:zb [.agg [.int .i64 v_0.Epoch,.int .i64 v_0.Leader,lst cI v_0.InStep]] 0 = .agg [.int .i64 v_0.Epoch,.int .i64 v_0.Leader,lst cI v_0.InStep]:=rfl
 generalize zb [.agg [.int .i64 v_0.Epoch,.int .i64 v_0.Leader,lst cI v_0.InStep]]=fr0 at zf0 ⊢
 have hS:Sep h (geL h.length) []:=a0k h
 simp only [x89,qc,qd,jp,zf0,B0,reduceIte,a9]
 refine je (cs:=[.int .i64 v_0.Epoch,.int .i64 v_0.Leader,lst cI v_0.InStep]) hS rfl rfl rfl (fun b1 h2 hS3=>?_)
 simp only [kd,B0,reduceIte,a9]
 refine jt hS3 (fun b5 h6 hS7=>?_)
 simp only [qa,q4n,qc,qd,ws,evp,B0,reduceIte,a9]
 refine yp (n:=1) (f:=cI) ([] : List Int) hS7 rfl rfl (fun v9 c10 h11 hv12 hS13=>?_)
 simp only [qt,qb,d8,d9,e8,zd,qn,B0,reduceIte,a9]
 refine qh (v:=lst cI v_0.InStep) ((jv (o9 _ _ _ (l9 hS13))).trans rfl) ?_
 simp only [um,B0,reduceIte,a9]
 obtain ⟨l15,hx16,hF17⟩:=qk hF
 refine wm (f:=cI) hv12 hS13 hW (fun _=>rfl) (fun _=>rfl) (u9 (fun _=>rfl)) hx16 (fun v18 c19 h20 hv21 hS22=>?_)
 simp only [qt,qb,d8,d9,e8,zd,zp,B0,reduceIte,a9]
 refine zm (us:=[v18]) (kg (l7 hv21)) (cs':=[.int .i64 v_0.Epoch,.int .i64 v_0.Leader,
   v18]) (l9 hS22) hW rfl (qm (l7 hv21) zq) (nle rfl) rfl (fun h24 hS25=>?_)
 simp only [qa,qc,qd,qn,B0,reduceIte,a9]
 refine qh (v := .agg [.int .i64 v_0.Epoch,.int .i64 v_0.Leader,v18]) ((zu (o9 _ _ _ hS25)).trans rfl) ?_
 simp only [zp,B0,reduceIte,a9]
 refine zm (us:=[.int .i64 v_0.Epoch,.int .i64 v_0.Leader,v18]) rfl (cs':=[.int .i64 v_0.Epoch,.int .i64 v_0.Leader,
   v18]) (l9 hS25) hW rfl (qm rfl (qm rfl (qm (l7 hv21) zq))) (nle rfl) rfl (fun h26 hS27=>?_)
 simp only [qa,qx,B0,reduceIte,a9]
 have he:=qj hF17
 subst he
 refine yo (bb:=b5) (oo:=0) (v := .agg [.int .i64 v_0.Epoch,.int .i64 v_0.Leader,v18]) (by simp only [B0,reduceIte,
   a9]) ((zu (o9 _ _ _ hS27)).trans rfl) ?_
 exact ⟨v18,c19,by first | trivial | rfl,hv21,(o8 ((o8 (hS27))))⟩
end Go.Proofs.Ytohofoampalhoaa.X
