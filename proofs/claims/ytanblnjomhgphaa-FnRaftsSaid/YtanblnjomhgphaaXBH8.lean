/- The functions' code comes to what the plain functions say (8). -/
import Derived.Test.YtanblnjomhgphaaXBH7
open List renaming append_assoc→t7,drop_succ_cons→s6,drop_zero→t3,length→p9,nil_append→a08,take_succ_cons→s5,take_zero→t4
open Nat renaming add_zero→o9,reduceAdd→o7,reduceEqDiff→a8,zero_add→o8
open Option renaming map_none→a02,map_some→a0q
open Go.Proofs.Ytanblnjomhgphaa.X.Sep renaming dc→a0k,m1→t6,m2→s9,nil→a14
open Go.Proofs.Ytanblnjomhgphaa.X.SlF renaming plen→a1p,snap→a3t
set_option linter.unusedVariables false
set_option linter.unusedSimpArgs false
set_option maxRecDepth 100000
set_option maxHeartbeats 1000000
namespace Go.Proofs.Ytanblnjomhgphaa.X
open Go
theorem qj4 {W:Nat→Bool}{h:Heap} (hW:∀ b,
  (geL h.length) b→W b=true) (r_0:Raft) (r:(List Entry) × Bool) (hF:qau r_0=some r) : Ret E W 11 [.agg [lst qs r_0.Peers,
  lst qu r_0.Mail]] h (fun v h'=>∃ rv0 rc0,v = .tup [rv0,.bool r.2]∧SlF qh 2 65 rv0 r.1 rc0∧Sep h' (geL h.length) (rc0++([]))):=by
 refine Ret.of (fn:=x11) rfl (Run.of ?_)
 unfold qau at hF
 have zf0:zk [.agg [lst qs r_0.Peers,lst qu r_0.Mail]] 0 = .agg [lst qs r_0.Peers,lst qu r_0.Mail]:=rfl
 generalize zk [.agg [lst qs r_0.Peers,lst qu r_0.Mail]]=fr0 at zf0 ⊢
 have hS:Sep h (geL h.length) []:=a14 h
 simp only [x11,qf,qe,ym,zf0,B0,reduceIte,a8]
 refine ko (cs:=[lst qs r_0.Peers,lst qu r_0.Mail]) hS rfl rfl rfl (fun b1 h2 hS3=>?_)
 simp only [qg,qa,B0,reduceIte,a8]
 refine jc hS3 hW (by simp only [B0,reduceIte,a8]) (fun h5 hS6=>?_)
 simp only [z5,qy0,qf,qe,ql,B0,reduceIte,a8]
 refine qd (v := .agg [lst qs r_0.Peers,lst qu r_0.Mail]) rfl ?_
 obtain ⟨v7,hx8,hF9⟩:=qk hF
 simp only [zi,B0,reduceIte,a8]
 refine jx rfl (qt (wk (qt jh (qt jh zm))) zm) (qgw (fun b hb=>decide_eq_true hb) r_0 v7 hx8) ?_
 simp only [jq,qb,kq,qa,q5w,q8,B0,reduceIte,a8]
 refine q9 (t:=(!v7)) (fun hc10=>?_) (fun hc10=>?_)
 ·rw [iteT hc10] at hF9
  simp only [qf,qe,qg,qa,zc,B0,reduceIte,a8]
  have he:=qj hF9
  subst he
  simp only [qes,B0,reduceIte,a8]
  exact ⟨.nil,[],by first | trivial | rfl,SlF.nil,(hS6:Sep _ (geL h.length) ([]))⟩
 rw [iteF hc10] at hF9
 simp only [zd,q7t,qf,qe,qo,qb,o7,o8,o9,qn,ql,B0,reduceIte,a8]
 refine qd (v:=lst qs r_0.Peers) rfl ?_
 obtain ⟨x11,hx12,hF13⟩:=qk hF9
 simp only [jj,B0,reduceIte,a8]
 refine qd (v := .ref (qs x11) 0) (xg hx12 rfl) ?_
 simp only [ql,B0,reduceIte,a8]
 refine qd (v := .agg [.int .i64 x11.Term,.bool x11.Leads,lst qh x11.Log,.int .i64 x11.Commit,lst cI x11.Match]) rfl ?_
 simp only [ji,B0,reduceIte,a8]
 refine z6 hS6 (fun b14 h15 hS16=>?_)
 simp only [zh,B0,reduceIte,a8]
 refine qy (us:=[.int .i64 x11.Term,.bool x11.Leads,lst qh x11.Log,.int .i64 x11.Commit,lst cI x11.Match]) rfl (cs':=[.int .i64 x11.Term,.bool x11.Leads,
   lst qh x11.Log,.int .i64 x11.Commit,lst cI x11.Match]) hS16 hW rfl rfl (nle rfl) rfl (fun h18 hS19=>?_)
 simp only [qa,q4i,qf,qe,qo,qb,o7,o8,o9,qn,ql,B0,reduceIte,a8]
 refine qd (v:=lst qs r_0.Peers) rfl ?_
 simp only [zq,qb,z7,qg,qa,B0,reduceIte,a8]
 obtain ⟨oc24,hX26,hk27⟩:=kd hF13
 simp only [q6b]
 refine yi (σ:=Peer) r_0.Peers (fun i22 x23 s57=>qax i22 x23 s57) (fun s fr' h'=>fr' 4 = .ptr b14 0∧fr' 15=lst qs r_0.Peers∧Sep h'
   (geL h.length) ([Blk1 b14 [.int .i64 s.Term,.bool s.Leads,lst qh s.Log,.int .i64 s.Commit,lst cI s.Match] 43]++([]))) hX26 ⟨rfl,rfl,hS19⟩ (by simp only [B0,
   reduceIte,a8]) (by simp only [B0,reduceIte,
   a8]) (fun _ _ _ h=>h) rfl rfl (fun _ _ _ _ h=>h) (fun _ _ _ _ h=>h) (fun _ _ _ _ h=>h) (by decide) ?_ ?_
 ·rintro i22 x23 s21 fr36 h37 hx41 ⟨f39,f40,hS38⟩ f42 f43 oc25 hF28 hr29 Q30 hN31 hB35 hK32 hR33 hE34
  unfold qax at hF28
  simp only [q7a,qf,qe,f40,f42,jj,B0,reduceIte,a8]
  refine qd (v := .ref (qs x23) 0) (yj hx41 rfl) ?_
  simp only [ql,B0,reduceIte,a8]
  refine qd (v := .agg [.int .i64 x23.Term,.bool x23.Leads,lst qh x23.Log,.int .i64 x23.Commit,lst cI x23.Match]) rfl ?_
  simp only [ji,B0,reduceIte,a8]
  refine z6 hS38 (fun b44 h45 hS46=>?_)
  simp only [zh,B0,reduceIte,a8]
  refine qy (us:=[.int .i64 x23.Term,.bool x23.Leads,lst qh x23.Log,.int .i64 x23.Commit,lst cI x23.Match]) rfl (cs':=[.int .i64 x23.Term,
    .bool x23.Leads,lst qh x23.Log,.int .i64 x23.Commit,lst cI x23.Match]) hS46 hW rfl rfl (nle rfl) rfl (fun h48 hS49=>?_)
  simp only [qa,B0,reduceIte,a8]
  refine jc hS49 hW (by simp only [B0,reduceIte,a8]) (fun h50 hS51=>?_)
  simp only [z5,q25,qf,qe,qo,qb,o7,o8,o9,qn,ql,B0,reduceIte,a8]
  refine qd (v := .int .i64 x23.Commit) rfl ?_
  simp only [f39,qo,qb,o7,o8,o9,qv,ql,B0,reduceIte,a8]
  refine qd (v := .int .i64 s21.Commit) ((ja (Sep.bk _ _ _ hS51)).trans rfl) ?_
  simp only [qx,qb,ww,qa,q2x,q8,B0,reduceIte,a8]
  refine q9 (t:=(decide (s21.Commit<x23.Commit))) (fun hc52=>?_) (fun hc52=>?_)
  ·rw [iteT hc52] at hF28
   simp only [qe,ql,B0,reduceIte,a8]
   refine qd (v := .agg [.int .i64 x23.Term,.bool x23.Leads,lst qh x23.Log,.int .i64 x23.Commit,lst cI x23.Match]) rfl ?_
   simp only [f39,zh,B0,reduceIte,a8]
   refine qy (us:=[.int .i64 x23.Term,.bool x23.Leads,lst qh x23.Log,.int .i64 x23.Commit,lst cI x23.Match]) rfl (cs':=[.int .i64 x23.Term,
     .bool x23.Leads,lst qh x23.Log,.int .i64 x23.Commit,lst cI x23.Match]) hS51 hW rfl rfl (nle rfl) rfl (fun h53 hS54=>?_)
   simp only [qa,qm,B0,reduceIte,a8]
   have e55:=qj hF28
   exact hN31 _ _ _ e55.symm ⟨f39,f40,hS54⟩ (f42) (f43)
  rw [iteF hc52] at hF28
  simp only [zd,qm,B0,reduceIte,a8]
  have e56:=qj hF28
  exact hN31 _ _ _ e56.symm ⟨f39,f40,hS51⟩ (f42) (f43)
 rintro s58 fr59 h60 rfl ⟨f62,f63,hS61⟩
 dsimp only [jnO] at hk27
 unfold qdh at hk27
 simp only [q59,qf,qe,jy,evp,B0,reduceIte,a8]
 refine kg (n:=2) (f:=qh) ([] : List Entry) hS61 rfl rfl (fun v64 c65 h66 hv67 hS68=>?_)
 simp only [f62,qo,qb,o7,o8,o9,qv,ql,B0,reduceIte,a8]
 refine qd (v:=lst qh s58.Log) ((ja (Sep.bk _ _ _ (t6 hS68))).trans rfl) ?_
 simp only [f62,qo,qb,o7,o8,o9,qv,ql,B0,reduceIte,a8]
 refine qd (v := .int .i64 s58.Commit) ((ja (Sep.bk _ _ _ (t6 hS68))).trans rfl) ?_
 obtain ⟨l70,hx71,hF72⟩:=qk hk27
 simp only [qhb,a0q,a02,B0,reduceIte,a8]
 refine qd (qdd hx71 (fun _=>rfl)) ?_
 simp only [yv,B0,reduceIte,a8]
 obtain ⟨l73,hx74,hF75⟩:=qk hF72
 refine wh (f:=qh) hv67 hS68 hW (fun _=>rfl) (fun _=>rfl) (qbg (fun _=>rfl)) hx74 (fun v76 c77 h78 hv79 hS80=>?_)
 simp only [qg,qa,zc,B0,reduceIte,a8]
 have he:=qj hF75
 subst he
 simp only [qes,B0,reduceIte,a8]
 exact ⟨v76,c77,by first | trivial | rfl,hv79,(a0k (t6 hS80))⟩
theorem qlh {W:Nat→Bool}{h:Heap} (hW:∀ b,
  (geL h.length) b→W b=true) (r_0:Raft) (r:(List Int) × Bool) (hF:qcq r_0=some r) : Ret E W 12 [.agg [lst qs r_0.Peers,
  lst qu r_0.Mail]] h (fun v h'=>∃ rv0 rc0,v = .tup [rv0,.bool r.2]∧SlF cI 1 3 rv0 r.1 rc0∧Sep h' (geL h.length) (rc0++([]))):=by
 refine Ret.of (fn:=x12) rfl (Run.of ?_)
 unfold qcq at hF
 have zf0:zk [.agg [lst qs r_0.Peers,lst qu r_0.Mail]] 0 = .agg [lst qs r_0.Peers,lst qu r_0.Mail]:=rfl
 generalize zk [.agg [lst qs r_0.Peers,lst qu r_0.Mail]]=fr0 at zf0 ⊢
 have hS:Sep h (geL h.length) []:=a14 h
 simp only [x12,qf,qe,ym,zf0,B0,reduceIte,a8]
 refine ko (cs:=[lst qs r_0.Peers,lst qu r_0.Mail]) hS rfl rfl rfl (fun b1 h2 hS3=>?_)
 simp only [qg,qa,B0,reduceIte,a8]
 refine jc hS3 hW (by simp only [B0,reduceIte,a8]) (fun h5 hS6=>?_)
 simp only [z5,qz2,qf,qe,ql,B0,reduceIte,a8]
 refine qd (v := .agg [lst qs r_0.Peers,lst qu r_0.Mail]) rfl ?_
 obtain ⟨v7,hx8,hF9⟩:=qk hF
 simp only [zi,B0,reduceIte,a8]
 refine jx rfl (qt (wk (qt jh (qt jh zm))) zm) (qgw (fun b hb=>decide_eq_true hb) r_0 v7 hx8) ?_
 simp only [jq,qb,kq,qa,q5y,q8,B0,reduceIte,a8]
 refine q9 (t:=(!v7)) (fun hc10=>?_) (fun hc10=>?_)
 ·rw [iteT hc10] at hF9
  simp only [qf,qe,qg,qa,zc,B0,reduceIte,a8]
  have he:=qj hF9
  subst he
  simp only [qes,B0,reduceIte,a8]
  exact ⟨.nil,[],by first | trivial | rfl,SlF.nil,(hS6:Sep _ (geL h.length) ([]))⟩
 rw [iteF hc10] at hF9
 simp only [zd,q26,qf,qe,jy,evp,B0,reduceIte,a8]
 refine kg (n:=1) (f:=cI) ([] : List Int) hS6 rfl rfl (fun v11 c12 h13 hv14 hS15=>?_)
 simp only [qg,qa,q76,qf,qe,qo,qb,o7,o8,o9,qn,ql,B0,reduceIte,a8]
 refine qd (v:=lst qs r_0.Peers) rfl ?_
 simp only [zq,qb,z7,qg,qa,B0,reduceIte,a8]
 obtain ⟨oc29,hX31,hk32⟩:=kd hF9
 simp only [q3e]
 refine yi (σ:=(List Int)) r_0.Peers (fun i27 x28 s75=>qb7 i27 x28 s75) (fun s fr' h'=>∃ v24 c25,
   fr' 4=v24∧fr' 12=lst qs r_0.Peers∧SlF cI 1 3 v24 s c25∧Sep h' (geL h.length) (c25++([]))) hX31 ⟨v11,c12,rfl,rfl,hv14,hS15⟩ (by simp only [B0,
   reduceIte,a8]) (by simp only [B0,reduceIte,
   a8]) (fun _ _ _ h=>h) rfl rfl (fun _ _ _ _ h=>h) (fun _ _ _ _ h=>h) (fun _ _ _ _ h=>h) (by decide) ?_ ?_
 ·rintro i27 x28 s22 fr41 h42 hx46 ⟨v24,c25,f44,f45,hv26,hS43⟩ f47 f48 oc30 hF33 hr34 Q35 hN36 hB40 hK37 hR38 hE39
  unfold qb7 at hF33
  simp only [q3c,qf,qe,f47,qg,f45,jj,B0,reduceIte,a8]
  refine qd (v := .ref (qs x28) 0) (yj hx46 rfl) ?_
  simp only [ql,B0,reduceIte,a8]
  refine qd (v := .agg [.int .i64 x28.Term,.bool x28.Leads,lst qh x28.Log,.int .i64 x28.Commit,lst cI x28.Match]) rfl ?_
  simp only [ji,B0,reduceIte,a8]
  refine z6 hS43 (fun b49 h50 hS51=>?_)
  simp only [qg,zh,B0,reduceIte,a8]
  refine qy (us:=[.int .i64 x28.Term,.bool x28.Leads,lst qh x28.Log,.int .i64 x28.Commit,lst cI x28.Match]) rfl (cs':=[.int .i64 x28.Term,
    .bool x28.Leads,lst qh x28.Log,.int .i64 x28.Commit,lst cI x28.Match]) hS51 hW rfl rfl (nle rfl) rfl (fun h53 hS54=>?_)
  simp only [qa,B0,reduceIte,a8]
  refine jc hS54 hW (by simp only [B0,reduceIte,a8]) (fun h55 hS56=>?_)
  simp only [z5,q2l,qf,qe,qo,qb,o7,o8,o9,qn,ql,B0,reduceIte,a8]
  refine qd (v := .bool x28.Leads) rfl ?_
  simp only [qa,q54,q8,B0,reduceIte,a8]
  refine q9 (t:=x28.Leads) (fun hc57=>?_) (fun hc57=>?_)
  ·rw [iteT hc57] at hF33
   simp only [q29,qe,f44,qg,jy,evp,B0,reduceIte,a8]
   refine kg (n:=1) (f:=cI) [(i27:Int)] hS56 rfl rfl (fun v58 c59 h60 hv61 hS62=>?_)
   simp only [yv,B0,reduceIte,a8]
   obtain ⟨l64,hx65,hF66⟩:=qk hF33
   refine wh (f:=cI) hv26 (t6 hS62) hW (fun _=>rfl) (fun _=>rfl) (SlF.first hv61 hS62 (fun _=>rfl)) hx65 (fun v67 c68 h69 hv70 hS71=>?_)
   simp only [qg,qa,qm,B0,reduceIte,a8]
   have e73:=qj hF66
   exact hN36 _ _ _ e73.symm ⟨v67,c68,rfl,f45,hv70,(a0k (t6 hS71))⟩ (f47) (f48)
  rw [iteF hc57] at hF33
  simp only [zd,qm,B0,reduceIte,a8]
  have e74:=qj hF33
  exact hN36 _ _ _ e74.symm ⟨v24,c25,f44,f45,hv26,hS56⟩ (f47) (f48)
 rintro s76 fr81 h82 rfl ⟨v78,c79,f84,f85,hv80,hS83⟩
 dsimp only [jnO] at hk32
 unfold qg4 at hk32
 simp only [qf,qe,f84,qg,qa,zc,B0,reduceIte,a8]
 have he:=qj hk32
 subst he
 simp only [qes,B0,reduceIte,a8]
 exact ⟨v78,c79,by first | trivial | rfl,hv80,hS83⟩
theorem qmf {W:Nat→Bool}{h:Heap} (hW:∀ b,
  (geL h.length) b→W b=true) (r_0:Raft) (r:Bool) (hF:qc9 r_0=some r) : Ret E W 13 [.agg [lst qs r_0.Peers,
  lst qu r_0.Mail]] h (fun v h'=>cut h.length h' E.sz false 9 v=some (.bool r)):=by
 refine Ret.of (fn:=x13) rfl (Run.of ?_)
 unfold qc9 at hF
 have zf0:zk [.agg [lst qs r_0.Peers,lst qu r_0.Mail]] 0 = .agg [lst qs r_0.Peers,lst qu r_0.Mail]:=rfl
 generalize zk [.agg [lst qs r_0.Peers,lst qu r_0.Mail]]=fr0 at zf0 ⊢
 have hS:Sep h (geL h.length) []:=a14 h
 simp only [x13,qf,qe,ym,zf0,B0,reduceIte,a8]
 refine ko (cs:=[lst qs r_0.Peers,lst qu r_0.Mail]) hS rfl rfl rfl (fun b1 h2 hS3=>?_)
 simp only [qg,qa,B0,reduceIte,a8]
 refine jc hS3 hW (by simp only [B0,reduceIte,a8]) (fun h5 hS6=>?_)
 simp only [z5,qf,qe,ql,B0,reduceIte,a8]
 refine qd (v := .agg [lst qs r_0.Peers,lst qu r_0.Mail]) rfl ?_
 obtain ⟨v7,hx8,hF9⟩:=qk hF
 simp only [zi,B0,reduceIte,a8]
 refine jx rfl (qt (wk (qt jh (qt jh zm))) zm) (qgw (fun b hb=>decide_eq_true hb) r_0 v7 hx8) ?_
 simp only [qg,qa,zc,B0,reduceIte,a8]
 have he:=qj hF9
 subst he
 simp only [zr,B0,reduceIte,a8]
 exact rfl
theorem qi5 {W:Nat→Bool}{h:Heap} (hW:∀ b,
  (geL h.length) b→W b=true) (s1_0:List Entry) (s2_1:List Entry) (r:Bool) (hF:uu s1_0 s2_1=some r) : Ret E W 51 [lst qh s1_0,
  lst qh s2_1] h (fun v h'=>cut h.length h' E.sz false 9 v=some (.bool r)):=by
 refine Ret.of (fn:=x51) rfl (Run.of ?_)
 unfold uu at hF
 have zf0:zk [lst qh s1_0,lst qh s2_1] 0=lst qh s1_0:=rfl
 have zf1:zk [lst qh s1_0,lst qh s2_1] 1=lst qh s2_1:=rfl
 generalize zk [lst qh s1_0,lst qh s2_1]=fr0 at zf0 zf1 ⊢
 have hS:Sep h (geL h.length) []:=a14 h
 simp only [x51,qf,qe,qg,qa,q3i,zf0,zq,qb,z7,zf1,qx,wz,q8,B0,reduceIte,a8]
 refine q9 (t:=(decide ((p9 s1_0:Int)≠(p9 s2_1:Int)))) (fun hc1=>?_) (fun hc1=>?_)
 ·rw [iteT hc1] at hF
  simp only [qf,qe,qg,qa,zc,B0,reduceIte,a8]
  have he:=qj hF
  subst he
  simp only [zr,B0,reduceIte,a8]
  exact rfl
 rw [iteF hc1] at hF
 simp only [zd,q3v,qf,qe,zf0,qg,zq,qb,z7,qa,B0,reduceIte,a8]
 obtain ⟨oc4,hX6,hk7⟩:=kd hF
 simp only [q9j]
 refine yi (σ:=Unit) s1_0 (fun i2 x3 _=>uz s2_1 i2 x3 ) (fun s fr' h'=>fr' 0=lst qh s1_0∧fr' 1=lst qh s2_1∧Sep h'
   (geL h.length) ([])) hX6 ⟨zf0,zf1,hS⟩ (by simp only [B0,reduceIte,a8]) (by simp only [B0,reduceIte,
   a8]) (fun _ _ _ h=>h) rfl rfl (fun _ _ _ _ h=>h) (fun _ _ _ _ h=>h) (fun _ _ _ _ h=>h) (by decide) ?_ ?_
 ·rintro i2 x3 _ fr16 h17 hx21 ⟨f19,f20,hS18⟩ f22 f23 oc5 hF8 hr9 Q10 hN11 hB15 hK12 hR13 hE14
  unfold uz at hF8
  simp only [q5f,qf,qe,f22,qg,qa,q85,jg,f19,zz,qi,yh,B0,reduceIte,a8]
  refine qq (v := .ref (qh x3) 0) (yj hx21 rfl) ?_
  simp only [zj,B0,reduceIte,a8]
  refine qq (v := .agg [.int .i64 x3.Term,.int .i64 x3.Value]) rfl ?_
  obtain ⟨x24,hx25,hF26⟩:=qk hF8
  simp only [f20,zz,qi,yh,B0,reduceIte,a8]
  refine qq (v := .ref (qh x24) 0) (xg hx25 rfl) ?_
  simp only [zj,B0,reduceIte,a8]
  refine qq (v := .agg [.int .i64 x24.Term,.int .i64 x24.Value]) rfl ?_
  simp only [qys,B0,reduceIte,a8]
  refine qq (v := .bool (!((x3.Term == x24.Term)&&((x3.Value == x24.Value)&&true)))) rfl ?_
  simp only [za,q8,B0,reduceIte,a8]
  refine q9 (t:=(!((x3.Term == x24.Term)&&((x3.Value == x24.Value)&&true)))) (fun hc27=>?_) (fun hc27=>?_)
  ·rw [iteT hc27] at hF26
   simp only [qf,qe,qg,qa,zc,B0,reduceIte,a8]
   have e28:=qj hF26
   subst e28
   have ho29:=hr9 _ rfl
   have hk30:=hk7
   rw [ho29] at hk30
   dsimp only [jnO] at hk30
   apply hR13
   have he:=qj hk30
   subst he
   simp only [zr,B0,reduceIte,a8]
   exact rfl
  rw [iteF hc27] at hF26
  simp only [zd,qm,B0,reduceIte,a8]
  have e31:=qj hF26
  exact hN11 _ _ _ e31.symm ⟨f19,f20,hS18⟩ (f22) (f23)
 rintro _ fr33 h34 rfl ⟨f36,f37,hS35⟩
 dsimp only [jnO] at hk7
 unfold qe4 at hk7
 simp only [qf,qe,qg,qa,zc,B0,reduceIte,a8]
 have he:=qj hk7
 subst he
 simp only [zr,B0,reduceIte,a8]
 exact rfl
theorem qk6 {W:Nat→Bool}{h:Heap} (hW:∀ b,
  (geL h.length) b→W b=true) (k:Nat) (l7:List Entry) (i8:List Entry) (r:Bool × Bool) (hF:uo k l7 i8=some r) : Ret E W 15 [lst qh l7,
  lst qh i8] h (fun v h'=>cut h.length h' E.sz false 9 v=some (.tup [.bool r.1,.bool r.2])):=by
 refine Ret.of (fn:=x15) rfl (Run.of ?_)
 unfold uo at hF
 have zf0:zk [lst qh l7,lst qh i8] 0=lst qh l7:=rfl
 have zf1:zk [lst qh l7,lst qh i8] 1=lst qh i8:=rfl
 generalize zk [lst qh l7,lst qh i8]=fr0 at zf0 zf1 ⊢
 have hS:Sep h (geL h.length) []:=a14 h
 obtain ⟨v1,hx2,hF3⟩:=qk hF
 simp only [x15,qf,qe,qg,qa,q8f,zf0,zi,B0,reduceIte,a8]
 refine jx rfl (qt jh (qt zb zm)) (qeu (fun b hb=>decide_eq_true hb) l7 100 v1 hx2) ?_
 simp only [jq,qb,kq,qg,B0,reduceIte,a8]
 obtain ⟨v7,hx8,hF9⟩:=qk hF3
 refine jf 4 (fun fr' h'=>Sep h' (geL h.length) ([])∧fr' 14 = .bool v7∧fr' 0=lst qh l7∧fr' 1=lst qh i8) (fun Q4 hN5=>?_) ?_
 ·simp only [s5,t4]
  simp only [qc (g:=10),B0,reduceIte,a8]
  refine zf (t:=(!v1)) (fun hg6=>?_) (fun hg6=>?_)
  ·rw [iteT hg6] at hx8
   simp only [hg6,qc (g:=10),zx,qw,qb,zo,qa,qm,B0,reduceIte,a8]
   have e10:=qj hx8
   exact hN5 _ _ ⟨hS,by rw [←e10]; simp only [B0,reduceIte,a8],zf0,zf1⟩
  ·rw [iteF hg6] at hx8
   obtain ⟨v11,hx12,hF13⟩:=qk hx8
   simp only [hg6,qc (g:=10),qr,zf1,qg,zi,B0,reduceIte,a8]
   refine jx rfl (qt jh (qt zb zm)) (qeu (fun b hb=>decide_eq_true hb) i8 100 v11 hx12) ?_
   simp only [hg6,qc (g:=10),qr,jq,qb,kq,qw,zn,qa,qm,B0,reduceIte,a8]
   have e14:=qj hF13
   exact hN5 _ _ ⟨hS,by rw [←e14]; simp only [B0,reduceIte,a8],zf0,zf1⟩
 rintro fr15 h19 ⟨hS20,f16,f17,f18⟩
 simp only [s6,t3]
 simp only [qa,q4v,f16,q8,B0,reduceIte,a8]
 refine q9 (t:=v7) (fun hc21=>?_) (fun hc21=>?_)
 ·rw [iteT hc21] at hF9
  simp only [qf,qe,qg,qa,zc,B0,reduceIte,a8]
  have he:=qj hF9
  subst he
  simp only [qes,B0,reduceIte,a8]
  exact qkf (qt rfl (qt rfl zm))
 rw [iteF hc21] at hF9
 simp only [zd,q6o,qf,qe,f17,qg,zq,qb,z7,f18,qnj,qlr,qa,q5k,B0,reduceIte,a8]
 obtain ⟨oc26,hX28,hk29⟩:=kd hF9
 simp only [q5g]
 refine qit (σ:=Int) (fun s69=>uf l7 i8 s69) (fun s fr' h'=>fr' 0=lst qh l7∧fr' 1=lst qh i8∧fr' 6 = .int .i64 s∧Sep h'
   (geL h.length) ([])) hX28 ⟨f17,f18,rfl,hS20⟩ (fun _ _ _ h=>h) ?_ ?_
 ·rintro s23 fr38 h39 ⟨f41,f42,f43,hS40⟩ oc27 hF30 hr31 Q32 hN33 hK34 hR35 hE36
  unfold uf at hF30
  simp only [q2t,qf,jg,f43,zz,qi,j5,ww,B0,reduceIte,a8]
  obtain ⟨v48,hx49,hF50⟩:=qk hF30
  refine qac 14 (fun fr' h'=>Sep h' (geL h.length) ([])∧fr' 36 = .bool v48∧fr' 0=lst qh l7∧fr' 1=lst qh i8∧fr' 6 = .int .i64 s23) rfl
    (fun Q45 hN46=>?_) ?_
  ·simp only [s5,t4]
   simp only [qz (g:=22),B0,reduceIte,a8]
   refine ky (t:=(decide ((0:Int)<s23))) (fun hg47=>?_) (fun hg47=>?_)
   ·rw [iteT hg47] at hx49
    obtain ⟨x51,hx52,hF53⟩:=qk hx49
    simp only [hg47,qz (g:=22),jd,f41,zz,qi,f43,j5,qbp,yh,B0,reduceIte,a8]
    refine qq (v := .ref (qh x51) 0) (xg hx52 rfl) ?_
    simp only [hg47,qz (g:=22),jd,zl,qi,o7,o8,o9,qn,zj,B0,reduceIte,a8]
    refine qq (v := .int .i64 x51.Term) rfl ?_
    obtain ⟨x54,hx55,hF56⟩:=qk hF53
    simp only [hg47,qz (g:=22),jd,f42,zz,qi,f43,j5,qbp,yh,B0,reduceIte,a8]
    refine qq (v := .ref (qh x54) 0) (xg hx55 rfl) ?_
    simp only [hg47,qz (g:=22),jd,zl,qi,o7,o8,o9,qn,zj,B0,reduceIte,a8]
    refine qq (v := .int .i64 x54.Term) rfl ?_
    simp only [hg47,qz (g:=22),jd,j5,qi,wz,ki,zo,za,qm,B0,reduceIte,a8]
    have e57:=qj hF56
    exact hN46 _ _ ⟨hS40,by rw [←e57]; simp only [B0,reduceIte,a8],f41,f42,f43⟩
   ·rw [iteF hg47] at hx49
    simp only [hg47,qz (g:=22),qaj,ki,qi,zn,za,qm,B0,reduceIte,a8]
    have e58:=qj hx49
    exact hN46 _ _ ⟨hS40,by rw [←e58]; simp only [B0,reduceIte,a8],f41,f42,f43⟩
  rintro fr59 h64 ⟨hS65,f60,f61,f62,f63⟩
  simp only [s6,t3]
  simp only [za,f60,q8,B0,reduceIte,a8]
  refine q9 (t:=v48) (fun hc66=>?_) (fun hc66=>?_)
  ·rw [iteT hc66] at hF50
   simp only [zd,wx,qe,f63,qg,qx,qb,qbp,qa,w6,qm,B0,reduceIte,a8]
   have e67:=qj hF50
   exact hN33 _ _ _ e67.symm ⟨f61,f62,rfl,hS65⟩
  rw [iteF hc66] at hF50
  simp only [qfv,qe0,qgc,B0,reduceIte,a8]
  have e68:=qj hF50
  exact hK34 _ _ _ e68.symm ⟨f61,f62,f63,hS65⟩
 rintro s70 fr71 h72 rfl ⟨f74,f75,f76,hS73⟩
 dsimp only [jnO] at hk29
 unfold qbu at hk29
 obtain ⟨l77,hx78,hF79⟩:=qk hk29
 simp only [q79,qf,jg,f74,zz,qi,f76,qgm,a0q,a02,B0,reduceIte,a8]
 refine qq (qdd hx78 (fun _=>rfl)) ?_
 obtain ⟨l80,hx81,hF82⟩:=qk hF79
 simp only [f75,zz,qi,f76,qgm,a0q,a02,B0,reduceIte,a8]
 refine qq (qdd hx81 (fun _=>rfl)) ?_
 obtain ⟨v83,hx84,hF85⟩:=qk hF82
 simp only [xa,B0,reduceIte,a8]
 refine qfm rfl (qt jh (qt jh zm)) (qi5 (fun b hb=>decide_eq_true hb) l77 l80 v83 hx84) ?_
 simp only [zz,qi,za,zc,B0,reduceIte,a8]
 have he:=qj hF85
 subst he
 simp only [qes,B0,reduceIte,a8]
 exact qkf (qt rfl (qt rfl zm))
end Go.Proofs.Ytanblnjomhgphaa.X
namespace Go.Proofs.Ytanblnjomhgphaa.X
open Go
theorem qnh {W:Nat→Bool}{h:Heap} (hW:∀ b,
  (geL h.length) b→W b=true) (k:Nat) (d8:List Int) (r:Bool) (hF:qd2 k d8=some r) : Ret E W 3 [lst cU8 d8] h
  (fun v h'=>cut h.length h' E.sz false 9 v=some (.bool r)):=by
 refine Ret.of (fn:=x3) rfl (Run.of ?_)
 unfold qd2 at hF
 have zf0:zk [lst cU8 d8] 0=lst cU8 d8:=rfl
 generalize zk [lst cU8 d8]=fr0 at zf0 ⊢
 have hS:Sep h (geL h.length) []:=a14 h
 simp only [x3,qf,qe,qg,qa,q23,zf0,zq,qb,z7,qx,ww,q8,B0,reduceIte,a8]
 refine q9 (t:=(decide ((1048576:Int)<(p9 d8:Int)))) (fun hc1=>?_) (fun hc1=>?_)
 ·rw [iteT hc1] at hF
  simp only [qf,qe,qg,qa,zc,B0,reduceIte,a8]
  have he:=qj hF
  subst he
  simp only [zr,B0,reduceIte,a8]
  exact rfl
 rw [iteF hc1] at hF
 obtain ⟨v2,hx3,hF4⟩:=qk hF
 simp only [zd,q67,qf,qe,zf0,qg,zi,B0,reduceIte,a8]
 refine qgh rfl hS (qt jh zm) (qjt (fun b hb=>decide_eq_true hb) k d8 v2 hx3) ?_
 rintro _ h9 ⟨v5,c6,rfl,hv7,hS10⟩
 refine ⟨_,qhm (qp rfl (qp (qkl (SlF.free1 hv7)) zp)),hS10,(wu (SlF.pf hv7 (fun _=>rfl)) qda),fun h11 hS12=>?_⟩
 have hS13:Sep h11 (geL h.length) (c6++([])):=by simpa only [t7,a08] using hS12
 obtain ⟨v14,hx15,hF16⟩:=qk hF4
 simp only [qg,qaz,qb,qa9,qbd,qa,q49,qf,qe,zi,B0,reduceIte,a8]
 refine jx rfl (qt zb (qt (a3t hv7 hS13 rfl (fun _=>rfl) (fun _=>rfl)) zm)) (ql9 (fun b hb=>decide_eq_true hb) v2.1 v2.2 v14 hx15) ?_
 simp only [qg,qaz,qb,qa9,qbd,qx7,ji,B0,reduceIte,a8]
 refine z6 hS13 (fun b17 h18 hS19=>?_)
 simp only [zh,B0,reduceIte,a8]
 refine qy (us:=[lst qs v14.1.Peers,lst qu v14.1.Mail]) rfl (cs':=[lst qs v14.1.Peers,
   lst qu v14.1.Mail]) hS19 hW rfl rfl (nle rfl) rfl (fun h21 hS22=>?_)
 simp only [qg,qa,B0,reduceIte,a8]
 refine jc hS22 hW (by simp only [B0,reduceIte,a8]) (fun h23 hS24=>?_)
 obtain ⟨v25,hx26,hF27⟩:=qk hF16
 simp only [z5,q8d,qf,qe,qg,zi,B0,reduceIte,a8]
 refine qgh rfl hS24 (qt zb (qt (a3t hv7 hS24 rfl (fun _=>rfl) (fun _=>rfl)) zm)) (ql3
   (fun b hb=>decide_eq_true hb) k v2.1 v2.2 v25 hx26) ?_
 rintro _ h40 ⟨v28,c29,v32,c33,v36,c37,rfl,hv30,hv34,hv38,hS41⟩
 refine ⟨_,qhm (qp (qka (qp (SlN.free1 hv30) (qp (SlN.free1 hv34) zp))) (qp (qkl (SlF.free1 hv38)) (qp rfl zp))),hS41,
   (wu (SlN.pf hv30 Peer.RO) (wu (SlN.pf hv34 Mail.RO) (wu (SlF.pf hv38 (fun _=>rfl)) qda))),fun h42 hS43=>?_⟩
 have hS44:Sep h42 (geL h.length) (c29++(c33++(c37++(c6++([]))))):=by simpa only [t7,a08] using hS43
 simp only [qg,qaz,qb,qa9,qbd,qx7,ji,B0,reduceIte,a8]
 refine z6 hS44 (fun b45 h46 hS47=>?_)
 simp only [zh,B0,reduceIte,a8]
 refine qy (us:=[v28,v32]) rfl (cs':=[v28,v32]) hS47 hW rfl (qp (SlN.one hv30) (qp (SlN.one hv34) zp)) (nle rfl) rfl (fun h49 hS50=>?_)
 simp only [qg,qa,B0,reduceIte,a8]
 refine jc hS50 hW (by simp only [B0,reduceIte,a8]) (fun h51 hS52=>?_)
 simp only [z5,q9r,qf,qe,qg,qkb,qb,qjw,B0,reduceIte,a8]
 obtain ⟨v56,hx57,hF58⟩:=qk hF27
 refine jf 5 (fun fr' h'=>Sep h' (geL h.length) (c29++(c33++([])))∧fr' 55 = .bool v56∧fr' 5 = .ref [lst qs v14.1.Peers,
   lst qu v14.1.Mail] 0∧fr' 6=lst cB v14.2.1∧fr' 7 = .bool v14.2.2∧fr' 8 = .ref [v28,v32] 0) (fun Q53 hN54=>?_) ?_
 ·simp only [s5,t4]
  simp only [qc (g:=50),B0,reduceIte,a8]
  refine zf (t:=(!(v14.2.2 == v25.2.2))) (fun hg55=>?_) (fun hg55=>?_)
  ·rw [iteT hg55] at hx57
   simp only [hg55,qc (g:=50),zx,qw,qb,zo,qa,qm,B0,reduceIte,a8]
   have e59:=qj hx57
   exact hN54 _ _ ⟨(t6 (t6 (a0k (s9 (a0k (s9 hS52)))))),by rw [←e59]; simp only [B0,reduceIte,a8],rfl,rfl,rfl,rfl⟩
  ·rw [iteF hg55] at hx57
   obtain ⟨v60,hx61,hF62⟩:=qk hx57
   simp only [hg55,qc (g:=50),qr,qg,zi,B0,reduceIte,a8]
   refine jx rfl (qt jh (qt (a3t hv38 (s9 hS52) rfl (fun _=>rfl) (fun _=>rfl)) zm)) (qky
     (fun b hb=>decide_eq_true hb) v14.2.1 v25.2.1 v60 hx61) ?_
   simp only [hg55,qc (g:=50),qr,jq,qb,kq,qw,zn,qa,qm,B0,reduceIte,a8]
   have e63:=qj hF62
   exact hN54 _ _ ⟨(t6 (t6 (a0k (s9 (a0k (s9 hS52)))))),by rw [←e63]; simp only [B0,reduceIte,a8],rfl,rfl,rfl,rfl⟩
 rintro fr64 h70 ⟨hS71,f65,f66,f67,f68,f69⟩
 simp only [s6,t3]
 simp only [f65,qg,B0,reduceIte,a8]
 obtain ⟨v75,hx76,hF77⟩:=qk hF58
 refine jf 5 (fun fr' h'=>Sep h' (geL h.length) ([])∧fr' 61 = .bool v75∧fr' 5 = .ref [lst qs v14.1.Peers,
   lst qu v14.1.Mail] 0∧fr' 6=lst cB v14.2.1∧fr' 7 = .bool v14.2.2) (fun Q72 hN73=>?_) ?_
 ·simp only [s5,t4]
  simp only [qc (g:=56),B0,reduceIte,a8]
  refine zf (t:=v56) (fun hg74=>?_) (fun hg74=>?_)
  ·rw [iteT hg74] at hx76
   simp only [hg74,qc (g:=56),zx,qw,qb,zo,qa,qm,B0,reduceIte,a8]
   have e78:=qj hx76
   exact hN73 _ _ ⟨(a0k ((a0k (hS71)))),by rw [←e78]; simp only [B0,reduceIte,a8],f66,f67,f68⟩
  ·rw [iteF hg74] at hx76
   simp only [hg74,qc (g:=56),qr,f66,ql,B0,reduceIte,a8]
   refine qd (v := .agg [lst qs v14.1.Peers,lst qu v14.1.Mail]) rfl ?_
   simp only [hg74,qc (g:=56),qr,f69,ql,B0,reduceIte,a8]
   refine qd (v := .agg [v28,v32]) rfl ?_
   obtain ⟨v79,hx80,hF81⟩:=qk hx76
   simp only [hg74,qc (g:=56),qr,zi,B0,reduceIte,a8]
   refine jx rfl (qt (wk (qt jh (qt jh zm))) (qt (wk (qt (SlN.snap hv30 _ hS71 rfl Peer.RO) (qt (SlN.snap hv34 _
     (t6 hS71) rfl Mail.RO) zm))) zm)) (qli (fun b hb=>decide_eq_true hb) v14.1 v25.1 v79 hx80) ?_
   simp only [hg74,qc (g:=56),qr,jq,qb,kq,qw,zn,qa,qm,B0,reduceIte,a8]
   have e82:=qj hF81
   exact hN73 _ _ ⟨(a0k ((a0k (hS71)))),by rw [←e82]; simp only [B0,reduceIte,a8],f66,f67,f68⟩
 rintro fr83 h88 ⟨hS89,f84,f85,f86,f87⟩
 simp only [s6,t3]
 simp only [qa,f84,q8,B0,reduceIte,a8]
 refine q9 (t:=v75) (fun hc90=>?_) (fun hc90=>?_)
 ·rw [iteT hc90] at hF77
  simp only [qf,qe,qg,qa,zc,B0,reduceIte,a8]
  have he:=qj hF77
  subst he
  simp only [zr,B0,reduceIte,a8]
  exact rfl
 rw [iteF hc90] at hF77
 simp only [zd,q5t,qf,qe,f87,qg,jq,qb,kq,qa,zbd,q8,B0,reduceIte,a8]
 refine q9 (t:=(!v14.2.2)) (fun hc91=>?_) (fun hc91=>?_)
 ·rw [iteT hc91] at hF77
  simp only [zbb,qf,qe,f86,qg,zq,qb,z7,qx,ku,qa,zc,B0,reduceIte,a8]
  have he:=qj hF77
  subst he
  simp only [zr,B0,reduceIte,a8]
  exact rfl
 rw [iteF hc91] at hF77
 simp only [zd,q7p,qf,qe,f85,ql,B0,reduceIte,a8]
 refine qd (v := .agg [lst qs v14.1.Peers,lst qu v14.1.Mail]) rfl ?_
 obtain ⟨v92,hx93,hF94⟩:=qk hF77
 simp only [zi,B0,reduceIte,a8]
 refine qgh rfl hS89 (qt (wk (qt jh (qt jh zm))) zm) (qj4 (fun b hb=>decide_eq_true hb) v14.1 v92 hx93) ?_
 rintro _ h99 ⟨v95,c96,rfl,hv97,hS100⟩
 refine ⟨_,qhm (qp (qkl (SlF.free1 hv97)) (qp rfl zp)),hS100,(wu (SlF.pf hv97 (fun _=>rfl)) qda),fun h101 hS102=>?_⟩
 have hS103:Sep h101 (geL h.length) (c96++([])):=by simpa only [t7,a08] using hS102
 simp only [qg,qaz,qb,qa9,qbd,qa,q8v,qf,qe,f85,ql,B0,reduceIte,a8]
 refine qd (v := .agg [lst qs v14.1.Peers,lst qu v14.1.Mail]) rfl ?_
 obtain ⟨v104,hx105,hF106⟩:=qk hF94
 simp only [zi,B0,reduceIte,a8]
 refine qgh rfl hS103 (qt (wk (qt jh (qt jh zm))) zm) (qlh (fun b hb=>decide_eq_true hb) v14.1 v104 hx105) ?_
 rintro _ h111 ⟨v107,c108,rfl,hv109,hS112⟩
 refine ⟨_,qhm (qp (qkl (SlF.free1 hv109)) (qp rfl zp)),hS112,(wu (SlF.pf hv109 (fun _=>rfl)) qda),fun h113 hS114=>?_⟩
 have hS115:Sep h113 (geL h.length) (c108++(c96++([]))):=by simpa only [t7,a08] using hS114
 simp only [qg,qaz,qb,qa9,qbd,qa,q44,qf,qe,f85,ql,B0,reduceIte,a8]
 refine qd (v := .agg [lst qs v14.1.Peers,lst qu v14.1.Mail]) rfl ?_
 obtain ⟨v116,hx117,hF118⟩:=qk hF106
 simp only [zi,B0,reduceIte,a8]
 refine jx rfl (qt (wk (qt jh (qt jh zm))) zm) (qmf (fun b hb=>decide_eq_true hb) v14.1 v116 hx117) ?_
 simp only [jq,qb,kq,qg,B0,reduceIte,a8]
 refine jf 3 (fun fr' h'=>Sep h' (geL h.length) (c96++(c108++([])))∧fr' 83 = .bool ((!v116)||(!v92.2))∧fr' 5 = .ref [lst qs v14.1.Peers,
   lst qu v14.1.Mail] 0∧fr' 11=v95∧fr' 13=v107∧fr' 14 = .bool v104.2) (fun Q119 hN120=>?_) ?_
 ·simp only [s5,t4]
  simp only [qc (g:=80),B0,reduceIte,a8]
  refine zf (t:=(!v116)) (fun hg121=>?_) (fun hg121=>?_)
  ·simp only [hg121,qc (g:=80),zx,qw,qb,zo,qa,qm,B0,reduceIte,a8]
   exact hN120 _ _ ⟨(t6 hS115),by rw [orT hg121]; simp only [B0,reduceIte,a8],f85,rfl,rfl,rfl⟩
  ·simp only [hg121,qc (g:=80),qr,qg,jq,qb,kq,qw,zn,qa,qm,B0,reduceIte,a8]
   exact hN120 _ _ ⟨(t6 hS115),by rw [orF hg121]; simp only [B0,reduceIte,a8],f85,rfl,rfl,rfl⟩
 rintro fr122 h128 ⟨hS129,f123,f124,f125,f126,f127⟩
 simp only [s6,t3]
 simp only [f123,qg,B0,reduceIte,a8]
 refine jf 3 (fun fr' h'=>Sep h' (geL h.length) (c96++(c108++([])))∧fr' 87 = .bool (((!v116)||(!v92.2))||(!v104.2))∧fr' 5 = .ref [lst qs v14.1.Peers,
   lst qu v14.1.Mail] 0∧fr' 11=v95∧fr' 13=v107) (fun Q130 hN131=>?_) ?_
 ·simp only [s5,t4]
  simp only [qc (g:=84),B0,reduceIte,a8]
  refine zf (t:=((!v116)||(!v92.2))) (fun hg132=>?_) (fun hg132=>?_)
  ·simp only [hg132,qc (g:=84),zx,qw,qb,zo,qa,qm,B0,reduceIte,a8]
   exact hN131 _ _ ⟨(t6 (t6 hS129)),by rw [orT hg132]; simp only [B0,reduceIte,a8],f124,f125,f126⟩
  ·simp only [hg132,qc (g:=84),qr,f127,qg,jq,qb,kq,qw,zn,qa,qm,B0,reduceIte,a8]
   exact hN131 _ _ ⟨(t6 (t6 hS129)),by rw [orF hg132]; simp only [B0,reduceIte,a8],f124,f125,f126⟩
 rintro fr133 h138 ⟨hS139,f134,f135,f136,f137⟩
 simp only [s6,t3]
 simp only [qa,f134,q8,B0,reduceIte,a8]
 refine q9 (t:=(((!v116)||(!v92.2))||(!v104.2))) (fun hc140=>?_) (fun hc140=>?_)
 ·rw [iteT hc140] at hF118
  simp only [qf,qe,qg,qa,zc,B0,reduceIte,a8]
  have he:=qj hF118
  subst he
  simp only [zr,B0,reduceIte,a8]
  exact rfl
 rw [iteF hc140] at hF118
 simp only [zd,q24,qf,qe,qg,qa,q2j,f135,qo,qb,o7,o8,o9,qn,ql,B0,reduceIte,
   a8]
 refine qd (v:=lst qs v14.1.Peers) rfl ?_
 simp only [zq,qb,z7,qg,qa,B0,reduceIte,a8]
 obtain ⟨oc145,hX147,hk148⟩:=kd hF118
 simp only [q7k]
 refine yi (σ:=Int) v14.1.Peers (fun i143 x144 s363=>uc k v14 v92 i143 x144 s363) (fun s fr' h'=>fr' 5 = .ref [lst qs v14.1.Peers,
   lst qu v14.1.Mail] 0∧fr' 11=v95∧fr' 13=v107∧fr' 15 = .int .i64 s∧fr' 89=lst qs v14.1.Peers∧Sep h' (geL h.length) (c96++(c108 ++
   ([])))) hX147 ⟨f135,f136,f137,rfl,rfl,(t6 (t6 hS139))⟩ (by simp only [B0,reduceIte,a8]) (by simp only [B0,reduceIte,
   a8]) (fun _ _ _ h=>h) rfl rfl (fun _ _ _ _ h=>h) (fun _ _ _ _ h=>h) (fun _ _ _ _ h=>h) (by decide) ?_ ?_
 ·rintro i143 x144 s142 fr157 h158 hx165 ⟨f160,f161,f162,f163,f164,hS159⟩ f166 f167 oc146 hF149 hr150 Q151 hN152 hB156 hK153 hR154 hE155
  unfold uc at hF149
  simp only [q2o,qf,qe,f166,qg,f164,jj,B0,reduceIte,a8]
  refine qd (v := .ref (qs x144) 0) (yj hx165 rfl) ?_
  simp only [ql,B0,reduceIte,a8]
  refine qd (v := .agg [.int .i64 x144.Term,.bool x144.Leads,lst qh x144.Log,.int .i64 x144.Commit,lst cI x144.Match]) rfl ?_
  simp only [ji,B0,reduceIte,a8]
  refine z6 hS159 (fun b168 h169 hS170=>?_)
  simp only [qg,zh,B0,reduceIte,a8]
  refine qy (us:=[.int .i64 x144.Term,.bool x144.Leads,lst qh x144.Log,.int .i64 x144.Commit,lst cI x144.Match]) rfl (cs':=[.int .i64 x144.Term,
    .bool x144.Leads,lst qh x144.Log,.int .i64 x144.Commit,lst cI x144.Match]) hS170 hW rfl rfl (nle rfl) rfl (fun h172 hS173=>?_)
  simp only [qa,B0,reduceIte,a8]
  refine jc hS173 hW (by simp only [B0,reduceIte,a8]) (fun h174 hS175=>?_)
  simp only [z5,q5x,qf,qe,qo,qb,o7,o8,o9,qn,ql,B0,reduceIte,a8]
  refine qd (v := .int .i64 x144.Term) rfl ?_
  simp only [f163,qg,qx,qb,ww,qa,zdm,q8,B0,reduceIte,a8]
  obtain ⟨s176,hX178,hk179⟩:=qk hF149
  refine wj (t:=(decide (s142<x144.Term))) (fun fr' h'=>fr' 5 = .ref [lst qs v14.1.Peers,
    lst qu v14.1.Mail] 0∧fr' 11=v95∧fr' 13=v107∧fr' 15 = .int .i64 s176∧fr' 16 = .int .i64 (i143:Int)∧fr' 17 = .ref [.int .i64 x144.Term,
    .bool x144.Leads,lst qh x144.Log,.int .i64 x144.Commit,
    lst cI x144.Match] 0∧fr' 89=lst qs v14.1.Peers∧fr' 90 = .int .i64 (p9 v14.1.Peers:Int)∧fr' 91 = .int .i64 (i143:Int)∧Sep h' (geL h.length)
    (c96++(c108++([])))) (fun Q180 hN181 hR182 hE183=>⟨fun hc184=>?_,fun hc184=>?_⟩) ?_
  ·rw [iteT hc184] at hX178
   simp only [qe,qo,qb,o7,o8,o9,qn,ql,B0,reduceIte,a8]
   refine qd (v := .int .i64 x144.Term) rfl ?_
   simp only [qg,qa,qm,B0,reduceIte,a8]
   have e185:=qj hX178
   subst e185
   exact hN181 _ _ ⟨f160,f161,f162,rfl,rfl,rfl,f164,f167,f166,(t6 (t6 hS175))⟩
  ·rw [iteF hc184] at hX178
   simp only [zd,qm,B0,reduceIte,a8]
   have e186:=qj hX178
   subst e186
   exact hN181 _ _ ⟨f160,f161,f162,f163,rfl,rfl,f164,f167,f166,(t6 (t6 hS175))⟩
  rintro fr187 h188 ⟨f190,f191,f192,f193,f194,f195,f196,f197,f198,hS189⟩
  unfold qfb at hk179
  simp only [q9u,qf,jg,f195,zl,qi,o7,o8,o9,qn,zj,B0,reduceIte,a8]
  refine qq (v := .int .i64 x144.Commit) rfl ?_
  simp only [f191,zz,qi,wm,a1p hv97,j5,ww,B0,reduceIte,a8]
  simp only [qz (g:=107),B0,reduceIte,a8]
  refine ky (t:=(decide ((p9 v92.1:Int)<x144.Commit))) (fun hg199=>?_) (fun hg199=>?_)
  ·rw [iteT hg199] at hk179
   simp only [hg199,qz (g:=107),xw,ki,qi,zo,za,q8,qnm,qf,qe,qg,qa,zc,B0,
     reduceIte,a8]
   have e200:=qj hk179
   subst e200
   have ho201:=hr150 _ rfl
   have hk202:=hk148
   rw [ho201] at hk202
   dsimp only [jnO] at hk202
   apply hR154
   have he:=qj hk202
   subst he
   simp only [zr,B0,reduceIte,a8]
   exact rfl
  rw [iteF hg199] at hk179
  simp only [hg199,qz (g:=107),jb,f195,zl,qi,o7,o8,o9,qn,zj,B0,reduceIte,a8]
  refine qq (v:=lst qh x144.Log) rfl ?_
  simp only [hg199,qz (g:=107),jb,f195,zl,qi,o7,o8,o9,qn,zj,B0,reduceIte,a8]
  refine qq (v := .int .i64 x144.Commit) rfl ?_
  obtain ⟨l203,hx204,hF205⟩:=qk hk179
  simp only [hg199,qz (g:=107),jb,qgm,a0q,a02,B0,reduceIte,a8]
  refine qq (qdd hx204 (fun _=>rfl)) ?_
  simp only [hg199,qz (g:=107),jb,f191,zz,qi,f195,zl,o7,o8,o9,qn,zj,B0,reduceIte,
    a8]
  refine qq (v := .int .i64 x144.Commit) rfl ?_
  obtain ⟨l206,hx207,hF208⟩:=qk hF205
  simp only [hg199,qz (g:=107),jb,qgm,a0q,a02,B0,reduceIte,a8]
  obtain ⟨w209,i210,he211,hw212⟩:=SlF.win (f:=qh) (ty:=65) none (some x144.Commit) hv97 hx207 hS189
  refine qq he211 ?_
  obtain ⟨v213,hx214,hF215⟩:=qk hF208
  simp only [hg199,qz (g:=107),jb,xa,B0,reduceIte,a8]
  refine qfm rfl (qt jh (qt (SlW.snap hw212 hv97 hS189 rfl (fun _=>rfl) (fun _=>rfl)) zm)) (qbc
    (fun b hb=>decide_eq_true hb) l203 l206 v213 hx214) ?_
  simp only [hg199,qz (g:=107),jb,qjb,qi,kq,ki,zn,za,q8,B0,reduceIte,a8]
  refine q9 (t:=(!v213)) (fun hc216=>?_) (fun hc216=>?_)
  ·rw [iteT hc216] at hF215
   simp only [qf,qe,qg,qa,zc,B0,reduceIte,a8]
   have e217:=qj hF215
   subst e217
   have ho218:=hr150 _ rfl
   have hk219:=hk148
   rw [ho218] at hk219
   dsimp only [jnO] at hk219
   apply hR154
   have he:=qj hk219
   subst he
   simp only [zr,B0,reduceIte,a8]
   exact rfl
  rw [iteF hc216] at hF215
  simp only [zd,zci,qf,qe,f190,qo,qb,o7,o8,o9,qn,ql,B0,reduceIte,a8]
  refine qd (v:=lst qs v14.1.Peers) rfl ?_
  obtain ⟨l220,hx221,hF222⟩:=qk hF215
  simp only [f194,qg,qhb,a0q,a02,B0,reduceIte,a8]
  refine qd (qdd hx221 (fun _=>rfl)) ?_
  simp only [zq,qb,z7,qg,qa,B0,reduceIte,a8]
  obtain ⟨oc225,hX227,hk228⟩:=kd hF222
  simp only [zbi]
  refine yi (σ:=Unit) l220 (fun i223 x224 _=>qba k x144 i223 x224 ) (fun s fr' h'=>fr' 5 = .ref [lst qs v14.1.Peers,
    lst qu v14.1.Mail] 0∧fr' 11=v95∧fr' 13=v107∧fr' 15 = .int .i64 s176∧fr' 17 = .ref [.int .i64 x144.Term,.bool x144.Leads,lst qh x144.Log,
    .int .i64 x144.Commit,lst cI x144.Match] 0∧fr' 89=lst qs v14.1.Peers∧fr' 90 = .int .i64 (p9 v14.1.Peers:Int)∧fr' 91 = .int .i64
    (i143:Int)∧fr' 123=lst qs l220∧Sep h' (geL h.length) (c96++(c108++([])))) hX227 ⟨f190,f191,f192,f193,f195,f196,f197,f198,rfl,
    (t6 (t6 hS189))⟩ (by simp only [B0,reduceIte,a8]) (by simp only [B0,reduceIte,
    a8]) (fun _ _ _ h=>h) rfl rfl (fun _ _ _ _ h=>h) (fun _ _ _ _ h=>h) (fun _ _ _ _ h=>h) (by decide) ?_ ?_
  ·rintro i223 x224 _ fr237 h238 hx249 ⟨f240,f241,f242,f243,f244,f245,f246,f247,f248,hS239⟩ f250 f251 oc226 hF229 hr230 Q231 hN232 hB236 hK233 hR234 hE235
   unfold qba at hF229
   simp only [zde,qf,qe,f248,f250,jj,B0,reduceIte,a8]
   refine qd (v := .ref (qs x224) 0) (yj hx249 rfl) ?_
   simp only [ql,B0,reduceIte,a8]
   refine qd (v := .agg [.int .i64 x224.Term,.bool x224.Leads,lst qh x224.Log,.int .i64 x224.Commit,lst cI x224.Match]) rfl ?_
   simp only [ji,B0,reduceIte,a8]
   refine z6 hS239 (fun b252 h253 hS254=>?_)
   simp only [zh,B0,reduceIte,a8]
   refine qy (us:=[.int .i64 x224.Term,.bool x224.Leads,lst qh x224.Log,.int .i64 x224.Commit,lst cI x224.Match]) rfl (cs':=[.int .i64 x224.Term,
     .bool x224.Leads,lst qh x224.Log,.int .i64 x224.Commit,lst cI x224.Match]) hS254 hW rfl rfl (nle rfl) rfl (fun h256 hS257=>?_)
   simp only [qa,B0,reduceIte,a8]
   refine jc hS257 hW (by simp only [B0,reduceIte,a8]) (fun h258 hS259=>?_)
   simp only [z5,zcb,qf,qe,f244,qo,qb,o7,o8,o9,qn,ql,B0,reduceIte,a8]
   refine qd (v:=lst qh x144.Log) rfl ?_
   simp only [qo,qb,o7,o8,o9,qn,ql,B0,reduceIte,a8]
   refine qd (v:=lst qh x224.Log) rfl ?_
   obtain ⟨v260,hx261,hF262⟩:=qk hF229
   simp only [zi,B0,reduceIte,a8]
   refine jx rfl (qt jh (qt jh zm)) (qk6 (fun b hb=>decide_eq_true hb) k x144.Log x224.Log v260 hx261) ?_
   simp only [qg,qaz,qb,qa9,qbd,qa,zce,qf,qe,jq,kq,B0,reduceIte,a8]
   refine jf 3 (fun fr' h'=>Sep h' (geL h.length) (c96++(c108++([])))∧fr' 142 = .bool ((!v260.2)||(!v260.1))∧fr' 5 = .ref [lst qs v14.1.Peers,
     lst qu v14.1.Mail] 0∧fr' 11=v95∧fr' 13=v107∧fr' 15 = .int .i64 s176∧fr' 17 = .ref [.int .i64 x144.Term,.bool x144.Leads,lst qh x144.Log,
     .int .i64 x144.Commit,lst cI x144.Match] 0∧fr' 19 = .ref [.int .i64 x224.Term,.bool x224.Leads,lst qh x224.Log,.int .i64 x224.Commit,
     lst cI x224.Match] 0∧fr' 89=lst qs v14.1.Peers∧fr' 90 = .int .i64 (p9 v14.1.Peers:Int)∧fr' 91 = .int .i64
     (i143:Int)∧fr' 123=lst qs l220∧fr' 124 = .int .i64 (p9 l220:Int)∧fr' 125 = .int .i64 (i223:Int)) (fun Q263 hN264=>?_) ?_
   ·simp only [s5,t4]
    simp only [qc (g:=139),B0,reduceIte,a8]
    refine zf (t:=(!v260.2)) (fun hg265=>?_) (fun hg265=>?_)
    ·simp only [hg265,qc (g:=139),zx,qw,qb,zo,qa,qm,B0,reduceIte,a8]
     exact hN264 _ _ ⟨(t6 (t6 hS259)),by rw [orT hg265]; simp only [B0,reduceIte,a8],f240,f241,f242,f243,f244,rfl,f245,f246,f247,f248,f251,
       f250⟩
    ·simp only [hg265,qc (g:=139),qr,qg,jq,qb,kq,qw,zn,qa,qm,B0,reduceIte,a8]
     exact hN264 _ _ ⟨(t6 (t6 hS259)),by rw [orF hg265]; simp only [B0,reduceIte,a8],f240,f241,f242,f243,f244,rfl,f245,f246,f247,f248,f251,
       f250⟩
   rintro fr266 h280 ⟨hS281,f267,f268,f269,f270,f271,f272,f273,f274,f275,f276,f277,f278,f279⟩
   simp only [s6,t3]
   simp only [f267,qg,B0,reduceIte,a8]
   refine jf 14 (fun fr' h'=>Sep h' (geL h.length) (c96++(c108++([])))∧fr' 157 = .bool (((!v260.2)||(!v260.1))||((x144.Leads&&x224.Leads)&&(decide
     (x144.Term=x224.Term))))∧fr' 5 = .ref [lst qs v14.1.Peers,
     lst qu v14.1.Mail] 0∧fr' 11=v95∧fr' 13=v107∧fr' 15 = .int .i64 s176∧fr' 17 = .ref [.int .i64 x144.Term,.bool x144.Leads,lst qh x144.Log,
     .int .i64 x144.Commit,lst cI x144.Match] 0∧fr' 89=lst qs v14.1.Peers∧fr' 90 = .int .i64 (p9 v14.1.Peers:Int)∧fr' 91 = .int .i64
     (i143:Int)∧fr' 123=lst qs l220∧fr' 124 = .int .i64 (p9 l220:Int)∧fr' 125 = .int .i64 (i223:Int)) (fun Q282 hN283=>?_) ?_
   ·simp only [s5,t4]
    simp only [qc (g:=143),B0,reduceIte,a8]
    refine zf (t:=((!v260.2)||(!v260.1))) (fun hg284=>?_) (fun hg284=>?_)
    ·simp only [hg284,qc (g:=143),zx,qc (g:=146),qcs,qc (g:=150),qw,qb,zo,qa,qm,B0,
      reduceIte,a8]
     exact hN283 _ _ ⟨(t6 (t6 hS281)),by rw [orT hg284]; simp only [B0,reduceIte,a8],f268,f269,f270,f271,f272,f274,f275,f276,f277,f278,f279⟩
    ·simp only [hg284,qc (g:=143),qr,f272,qo,qb,o7,o8,o9,qn,ql,B0,reduceIte,a8]
     refine qd (v := .bool x144.Leads) rfl ?_
     simp only [hg284,qc (g:=143),qr,qg,B0,reduceIte,a8]
     refine jf 3 (fun fr' h'=>Sep h' (geL h.length) (c96++(c108++([])))∧fr' 149 = .bool (x144.Leads&&x224.Leads)∧fr' 5 = .ref [lst qs v14.1.Peers,
       lst qu v14.1.Mail] 0∧fr' 11=v95∧fr' 13=v107∧fr' 15 = .int .i64 s176∧fr' 17 = .ref [.int .i64 x144.Term,.bool x144.Leads,
       lst qh x144.Log,.int .i64 x144.Commit,lst cI x144.Match] 0∧fr' 19 = .ref [.int .i64 x224.Term,.bool x224.Leads,lst qh x224.Log,
       .int .i64 x224.Commit,lst cI x224.Match] 0∧fr' 89=lst qs v14.1.Peers∧fr' 90 = .int .i64 (p9 v14.1.Peers:Int)∧fr' 91 = .int .i64
       (i143:Int)∧fr' 123=lst qs l220∧fr' 124 = .int .i64 (p9 l220:Int)∧fr' 125 = .int .i64 (i223:Int)∧fr' 143 = .bool ((!v260.2) ||
       (!v260.1))) (fun Q285 hN286=>?_) ?_
     ·simp only [s5,t4]
      simp only [qc (g:=146),B0,reduceIte,a8]
      refine zf (t:=x144.Leads) (fun hg287=>?_) (fun hg287=>?_)
      ·simp only [hg287,qc (g:=146),zu,f273,qo,qb,o7,o8,o9,qn,ql,B0,reduceIte,a8]
       refine qd (v := .bool x224.Leads) rfl ?_
       simp only [hg284,qc (g:=143),qr,hg287,qw,qb,zo,qa,qm,B0,reduceIte,a8]
       exact hN286 _ _ ⟨(t6 (t6 hS281)),by rw [qat hg287]; simp only [B0,reduceIte,a8],f268,f269,f270,f271,by simp only [f272,B0,reduceIte,
         a8,hg287],f273,f274,f275,f276,f277,f278,f279,by simp only [hg284,B0,reduceIte,a8]⟩
      ·simp only [hg287,qc (g:=146),kj,hg284,qc (g:=143),qr,qw,qb,zn,qa,qm,B0,reduceIte,
        a8]
       exact hN286 _ _ ⟨(t6 (t6 hS281)),by rw [qao hg287]; simp only [B0,reduceIte,a8],f268,f269,f270,f271,by simp only [f272,B0,reduceIte,
         a8,hg287],f273,f274,f275,f276,f277,f278,f279,by simp only [hg284,B0,reduceIte,a8]⟩
     rintro fr288 h303 ⟨hS304,f289,f290,f291,f292,f293,f294,f295,f296,f297,f298,f299,f300,f301,f302⟩
     simp only [s6,t3]
     simp only [f302,hg284,qc (g:=143),qr,f289,qg,B0,reduceIte,a8]
     refine jf 6 (fun fr' h'=>Sep h' (geL h.length) (c96++(c108++([])))∧fr' 156 = .bool ((x144.Leads&&x224.Leads)&&(decide
       (x144.Term=x224.Term)))∧fr' 5 = .ref [lst qs v14.1.Peers,
       lst qu v14.1.Mail] 0∧fr' 11=v95∧fr' 13=v107∧fr' 15 = .int .i64 s176∧fr' 17 = .ref [.int .i64 x144.Term,.bool x144.Leads,
       lst qh x144.Log,.int .i64 x144.Commit,
       lst cI x144.Match] 0∧fr' 89=lst qs v14.1.Peers∧fr' 90 = .int .i64 (p9 v14.1.Peers:Int)∧fr' 91 = .int .i64
       (i143:Int)∧fr' 123=lst qs l220∧fr' 124 = .int .i64 (p9 l220:Int)∧fr' 125 = .int .i64 (i223:Int)∧fr' 143 = .bool ((!v260.2) ||
       (!v260.1))) (fun Q305 hN306=>?_) ?_
     ·simp only [s5,t4]
      simp only [qc (g:=150),B0,reduceIte,a8]
      refine zf (t:=(x144.Leads&&x224.Leads)) (fun hg307=>?_) (fun hg307=>?_)
      ·simp only [hg307,qc (g:=150),zu,f294,qo,qb,o7,o8,o9,qn,ql,B0,reduceIte,a8]
       refine qd (v := .int .i64 x144.Term) rfl ?_
       simp only [hg307,qc (g:=150),zu,f295,qo,qb,o7,o8,o9,qn,ql,B0,reduceIte,a8]
       refine qd (v := .int .i64 x224.Term) rfl ?_
       simp only [hg307,qc (g:=150),zu,qx,qb,ku,f302,hg284,qc (g:=143),qr,qw,zo,qa,
         qm,B0,reduceIte,a8]
       exact hN306 _ _ ⟨(t6 (t6 hS304)),by rw [qat hg307]; simp only [B0,reduceIte,a8],f290,f291,f292,f293,f294,f296,f297,f298,f299,f300,
         f301,by simp only [f302,hg284,B0,reduceIte,a8]⟩
      ·simp only [hg307,qc (g:=150),kj,f302,hg284,qc (g:=143),qr,qw,qb,zn,qa,qm,B0,reduceIte,
        a8]
       exact hN306 _ _ ⟨(t6 (t6 hS304)),by rw [qao hg307]; simp only [B0,reduceIte,a8],f290,f291,f292,f293,f294,f296,f297,f298,f299,f300,
         f301,by simp only [f302,hg284,B0,reduceIte,a8]⟩
     rintro fr308 h322 ⟨hS323,f309,f310,f311,f312,f313,f314,f315,f316,f317,f318,f319,f320,f321⟩
     simp only [s6,t3]
     simp only [f321,hg284,qw,qb,zn,f309,qa,qm,B0,reduceIte,a8]
     exact hN283 _ _ ⟨(t6 (t6 hS323)),by rw [orF hg284]; simp only [B0,reduceIte,a8],f310,f311,f312,f313,f314,f315,f316,f317,f318,f319,f320⟩
   rintro fr324 h337 ⟨hS338,f325,f326,f327,f328,f329,f330,f331,f332,f333,f334,f335,f336⟩
   simp only [s6,t3]
   simp only [qa,f325,q8,B0,reduceIte,a8]
   refine q9 (t:=(((!v260.2)||(!v260.1))||((x144.Leads&&x224.Leads)&&(decide (x144.Term=x224.Term))))) (fun hc339=>?_) (fun hc339=>?_)
   ·rw [iteT hc339] at hF262
    simp only [qf,qe,qg,qa,zc,B0,reduceIte,a8]
    have e340:=qj hF262
    subst e340
    have ho341:=hr230 _ rfl
    have hk342:=hk228
    rw [ho341] at hk342
    dsimp only [jnO] at hk342
    apply hR234
    have e343:=qj hk342
    subst e343
    have ho344:=hr150 _ rfl
    have hk345:=hk148
    rw [ho344] at hk345
    dsimp only [jnO] at hk345
    apply hR154
    have he:=qj hk345
    subst he
    simp only [zr,B0,reduceIte,a8]
    exact rfl
   rw [iteF hc339] at hF262
   simp only [zd,qm,B0,reduceIte,a8]
   have e346:=qj hF262
   exact hN232 _ _ _ e346.symm ⟨f326,f327,f328,f329,f330,f331,f332,f333,f334,(t6 (t6 hS338))⟩ (f336) (f335)
  rintro _ fr348 h349 rfl ⟨f351,f352,f353,f354,f355,f356,f357,f358,f359,hS350⟩
  dsimp only [jnO] at hk228
  unfold qh5 at hk228
  simp only [qm,B0,reduceIte,a8]
  have e360:=qj hk228
  exact hN152 _ _ _ e360.symm ⟨f351,f352,f353,f354,f356,(t6 (t6 hS350))⟩ (f358) (f357)
 rintro s364 fr365 h366 rfl ⟨f368,f369,f370,f371,f372,hS367⟩
 dsimp only [jnO] at hk148
 unfold qfh at hk148
 simp only [q5u,qf,qe,f370,qg,zq,qb,a1p hv109,qa,B0,reduceIte,a8]
 obtain ⟨oc375,hX377,hk378⟩:=kd hk148
 simp only [q4y]
 refine qas (σ:=Unit) (fun i373 _=>qbe v14 v92 v104 s364 i373 ) (fun s fr' h'=>fr' 5 = .ref [lst qs v14.1.Peers,
   lst qu v14.1.Mail] 0∧fr' 11=v95∧fr' 15 = .int .i64 s364∧fr' 160=v107∧Sep h' (geL h.length) (c96++(c108++([])))) hX377 ⟨f368,f369,f371,rfl,
   (t6 (t6 hS367))⟩ (by simp only [B0,reduceIte,a8]) (by simp only [B0,reduceIte,
   a8]) (fun _ _ _ h=>h) rfl rfl (fun _ _ _ _ h=>h) (fun _ _ _ _ h=>h) (fun _ _ _ _ h=>h) (by decide) ?_ ?_
 ·rintro i373 _ fr387 h388 hx394 ⟨f390,f391,f392,f393,hS389⟩ f395 f396 oc376 hF379 hr380 Q381 hN382 hB386 hK383 hR384 hE385
  unfold qbe at hF379
  obtain ⟨x397,hx398,hF399⟩:=qk hF379
  simp only [q5e,qf,qe,f393,f395,jj,B0,reduceIte,a8]
  obtain ⟨b400,hb401⟩:=SlF.isrow hv109 (j7 hx398)
  refine qd (SlF.ia hv109 hb401 hx398) ?_
  simp only [ql,B0,reduceIte,a8]
  refine qd (v := .int .i64 x397) ((SlF.ld (o:=0) hv109 (t6 hS389) hb401 hx398 (fun _=>rfl) (nle rfl)).trans rfl) ?_
  simp only [qg,qa,q2y,qf,qe,f390,qo,qb,o7,o8,o9,qn,ql,B0,reduceIte,a8]
  refine qd (v:=lst qs v14.1.Peers) rfl ?_
  obtain ⟨x402,hx403,hF404⟩:=qk hF399
  simp only [qg,jj,B0,reduceIte,a8]
  refine qd (v := .ref (qs x402) 0) (xg hx403 rfl) ?_
  simp only [ql,B0,reduceIte,a8]
  refine qd (v := .agg [.int .i64 x402.Term,.bool x402.Leads,lst qh x402.Log,.int .i64 x402.Commit,lst cI x402.Match]) rfl ?_
  simp only [ji,B0,reduceIte,a8]
  refine z6 hS389 (fun b405 h406 hS407=>?_)
  simp only [zh,B0,reduceIte,a8]
  refine qy (us:=[.int .i64 x402.Term,.bool x402.Leads,lst qh x402.Log,.int .i64 x402.Commit,lst cI x402.Match]) rfl (cs':=[.int .i64 x402.Term,
    .bool x402.Leads,lst qh x402.Log,.int .i64 x402.Commit,lst cI x402.Match]) hS407 hW rfl rfl (nle rfl) rfl (fun h409 hS410=>?_)
  simp only [qa,B0,reduceIte,a8]
  refine jc hS410 hW (by simp only [B0,reduceIte,a8]) (fun h411 hS412=>?_)
  simp only [z5,q38,qf,qe,qo,qb,o7,o8,o9,qn,ql,B0,reduceIte,a8]
  refine qd (v := .int .i64 x402.Term) rfl ?_
  simp only [f392,qg,qx,qb,ku,B0,reduceIte,a8]
  obtain ⟨v416,hx417,hF418⟩:=qk hF404
  refine jf 17 (fun fr' h'=>Sep h' (geL h.length) (c96++(c108++([])))∧fr' 192 = .bool v416∧fr' 5 = .ref [lst qs v14.1.Peers,
    lst qu v14.1.Mail] 0∧fr' 11=v95∧fr' 15 = .int .i64 s364∧fr' 160=v107∧fr' 161 = .int .i64 (p9 v104.1:Int)∧fr' 162 = .int .i64
    (i373:Int)) (fun Q413 hN414=>?_) ?_
  ·simp only [s5,t4]
   simp only [qc (g:=175),B0,reduceIte,a8]
   refine zf (t:=(decide (x402.Term=s364))) (fun hg415=>?_) (fun hg415=>?_)
   ·rw [iteT hg415] at hx417
    simp only [hg415,qc (g:=175),zu,qo,qb,o7,o8,o9,qn,ql,B0,reduceIte,a8]
    refine qd (v:=lst qh x402.Log) rfl ?_
    simp only [hg415,qc (g:=175),zu,zq,qb,z7,f391,qg,a1p hv97,qx,qch,B0,reduceIte,a8]
    obtain ⟨v422,hx423,hF424⟩:=qk hx417
    refine jf 9 (fun fr' h'=>Sep h' (geL h.length) (c96++(c108++([])))∧fr' 191 = .bool v422∧fr' 5 = .ref [lst qs v14.1.Peers,
      lst qu v14.1.Mail] 0∧fr' 11=v95∧fr' 15 = .int .i64 s364∧fr' 160=v107∧fr' 161 = .int .i64 (p9 v104.1:Int)∧fr' 162 = .int .i64
      (i373:Int)∧fr' 175 = .bool (decide (x402.Term=s364))) (fun Q419 hN420=>?_) ?_
    ·simp only [s5,t4]
     simp only [qc (g:=182),B0,reduceIte,a8]
     refine zf (t:=(decide ((p9 x402.Log:Int)<(p9 v92.1:Int)))) (fun hg421=>?_) (fun hg421=>?_)
     ·rw [iteT hg421] at hx423
      simp only [hg421,qc (g:=182),zx,hg415,qc (g:=175),zu,qw,qb,zo,qa,qm,B0,reduceIte,
        a8]
      have e425:=qj hx423
      exact hN420 _ _ ⟨(t6 (t6 hS412)),by rw [←e425]; simp only [B0,reduceIte,a8],f390,f391,f392,f393,f396,f395,by simp only [hg415,B0,
        reduceIte,a8]⟩
     ·rw [iteF hg421] at hx423
      simp only [hg421,qc (g:=182),qr,qo,qb,o7,o8,o9,qn,ql,B0,reduceIte,a8]
      refine qd (v:=lst qh x402.Log) rfl ?_
      obtain ⟨l426,hx427,hF428⟩:=qk hx423
      simp only [hg421,qc (g:=182),qr,f391,qg,zq,qb,a1p hv97,qhb,a0q,a02,B0,reduceIte,
        a8]
      refine qd (qdd hx427 (fun _=>rfl)) ?_
      obtain ⟨v429,hx430,hF431⟩:=qk hF428
      simp only [hg421,qc (g:=182),qr,f391,qg,zi,B0,reduceIte,a8]
      refine jx rfl (qt jh (qt (a3t hv97 hS412 rfl (fun _=>rfl) (fun _=>rfl)) zm)) (qbc
        (fun b hb=>decide_eq_true hb) l426 v92.1 v429 hx430) ?_
      simp only [hg421,qc (g:=182),qr,jq,qb,kq,hg415,qc (g:=175),zu,qw,zn,qa,qm,B0,
        reduceIte,a8]
      have e432:=qj hF431
      exact hN420 _ _ ⟨(t6 (t6 hS412)),by rw [←e432]; simp only [B0,reduceIte,a8],f390,f391,f392,f393,f396,f395,by simp only [hg415,B0,
        reduceIte,a8]⟩
    rintro fr433 h442 ⟨hS443,f434,f435,f436,f437,f438,f439,f440,f441⟩
    simp only [s6,t3]
    simp only [f441,hg415,qw,qb,zo,f434,qa,qm,B0,reduceIte,a8]
    have e444:=qj hF424
    exact hN414 _ _ ⟨(t6 (t6 hS443)),by rw [←e444]; simp only [B0,reduceIte,a8],f435,f436,f437,f438,f439,f440⟩
   ·rw [iteF hg415] at hx417
    simp only [hg415,qc (g:=175),kj,qc (g:=182),qcs,qw,qb,zn,qa,qm,B0,reduceIte,a8]
    have e445:=qj hx417
    exact hN414 _ _ ⟨(t6 (t6 hS412)),by rw [←e445]; simp only [B0,reduceIte,a8],f390,f391,f392,f393,f396,f395⟩
  rintro fr446 h454 ⟨hS455,f447,f448,f449,f450,f451,f452,f453⟩
  simp only [s6,t3]
  simp only [qa,f447,q8,B0,reduceIte,a8]
  refine q9 (t:=v416) (fun hc456=>?_) (fun hc456=>?_)
  ·rw [iteT hc456] at hF418
   simp only [qf,qe,qg,qa,zc,B0,reduceIte,a8]
   have e457:=qj hF418
   subst e457
   have ho458:=hr380 _ rfl
   have hk459:=hk378
   rw [ho458] at hk459
   dsimp only [jnO] at hk459
   apply hR384
   have he:=qj hk459
   subst he
   simp only [zr,B0,reduceIte,a8]
   exact rfl
  rw [iteF hc456] at hF418
  simp only [zd,qm,B0,reduceIte,a8]
  have e460:=qj hF418
  exact hN382 _ _ _ e460.symm ⟨f448,f449,f450,f451,(t6 (t6 hS455))⟩ (f453) (f452)
 rintro _ fr462 h463 rfl ⟨f465,f466,f467,f468,hS464⟩
 dsimp only [jnO] at hk378
 unfold qic at hk378
 simp only [qf,qe,qg,qa,zc,B0,reduceIte,a8]
 have he:=qj hk378
 subst he
 simp only [zr,B0,reduceIte,a8]
 exact rfl
end Go.Proofs.Ytanblnjomhgphaa.X
