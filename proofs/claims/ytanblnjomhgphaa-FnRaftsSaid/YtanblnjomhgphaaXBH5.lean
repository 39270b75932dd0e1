/- The functions' code comes to what the plain functions say (5). -/
import Derived.Test.YtanblnjomhgphaaXBH4
open Go.IntKind renaming wrap→r8
open List renaming drop_succ_cons→s6,drop_zero→t3,length→p9,set→a1b,take_succ_cons→s5,take_zero→t4
open Nat renaming add_zero→o9,reduceAdd→o7,reduceEqDiff→a8,zero_add→o8
open Go.Proofs.Ytanblnjomhgphaa.X.Sep renaming bk→a0g,dc→a0k,m1→t6,m2→s9,m3→t5,m4→a0j,m5→t8,ni2→a1f,no2→a2j
open Go.Proofs.Ytanblnjomhgphaa.X.SlF renaming ia→a27,isrow→a19,one→a01,plen→a1p
open Go.Proofs.Ytanblnjomhgphaa.X.SlG renaming cls0→a1h,cls→a3e,ld→a15,opn→a2d,toN→a1e
open Go.Proofs.Ytanblnjomhgphaa.X.SlN renaming one→a0n,toG→a2f
set_option linter.unusedVariables false
set_option linter.unusedSimpArgs false
set_option maxRecDepth 100000
set_option maxHeartbeats 1000000
namespace Go.Proofs.Ytanblnjomhgphaa.X
open Go
theorem qlx {W:Nat→Bool}{h:Heap}{lo:Nat→Prop}{S0:List Obj} (hW:∀ b,
  lo b→W b=true) (pb0:Nat) (d8:Raft) (d6:XV) (f4:List Obj) (e9:SlN Peer.R 5 43 d6 d8.Peers f4) (d7:XV) (d9:List Obj)
  (e8:SlN Mail.R 9 86 d7 d8.Mail d9) (a9:RaftStep) (r:Bool × Raft) (hF:yf d8 a9=some r) (hS:Sep h lo ([Blk1 pb0 [d6,
  d7] 29]++(f4++(d9++(S0))))) : Ret E W 73 [.ptr pb0 0,.agg [.int .i64 a9.Kind,.int .i64 a9.K,.int .i64 a9.To,
  .int .i64 a9.N]] h (fun v h'=>∃ ic0_0 iv0_1 ic0_1,
  v = .bool r.1∧SlN Peer.R 5 43 d6 r.2.Peers ic0_0∧SlN Mail.R 9 86 iv0_1 r.2.Mail ic0_1∧Sep h' lo ([Blk1 pb0 [d6,iv0_1] 29]++(ic0_0++(ic0_1++(S0))))):=by
 refine Ret.of (fn:=x73) rfl (Run.of ?_)
 unfold yf at hF
 have zf0:zk [.ptr pb0 0,.agg [.int .i64 a9.Kind,.int .i64 a9.K,.int .i64 a9.To,.int .i64 a9.N]] 0 = .ptr pb0 0:=rfl
 have zf1:zk [.ptr pb0 0,.agg [.int .i64 a9.Kind,.int .i64 a9.K,.int .i64 a9.To,.int .i64 a9.N]] 1 = .agg [.int .i64 a9.Kind,.int .i64 a9.K,.int .i64 a9.To,
   .int .i64 a9.N]:=rfl
 generalize zk [.ptr pb0 0,.agg [.int .i64 a9.Kind,.int .i64 a9.K,.int .i64 a9.To,.int .i64 a9.N]]=fr0 at zf0 zf1 ⊢
 simp only [x73,qf,qe,ym,zf1,B0,reduceIte,a8]
 refine ko (cs:=[.int .i64 a9.Kind,.int .i64 a9.K,.int .i64 a9.To,.int .i64 a9.N]) hS rfl rfl rfl (fun b1 h2 hS3=>?_)
 simp only [qg,qa,B0,reduceIte,a8]
 refine jc hS3 hW (by simp only [B0,reduceIte,a8]) (fun h5 hS6=>?_)
 simp only [z5,qt7,qf,jg,zf0,zz,qi,js,zv,zl,o7,o8,o9,qv,zj,B0,reduceIte,
   a8]
 refine qq (v:=d6) ((ja (a0g _ _ _ hS6)).trans rfl) ?_
 simp only [zl,qi,o7,o8,o9,qn,zj,B0,reduceIte,a8]
 refine qq (v := .int .i64 a9.K) rfl ?_
 obtain ⟨x7,hx8,hF9⟩:=qk hF
 simp only [yh,B0,reduceIte,a8]
 obtain ⟨b10,hb11⟩:=SlN.isrow e9 (j7 hx8)
 refine qq (SlN.ia e9 hb11 hx8) ?_
 simp only [zz,qi,za,qxa,qf,qe,qo,qb,o7,o8,o9,qn,ql,B0,reduceIte,a8]
 refine qd (v := .int .i64 a9.Kind) rfl ?_
 simp only [qa,qtw,wx,qyq,qf,qe,qx,qb,ku,qg,qvi,q8,B0,reduceIte,a8]
 refine q9 (t:=(decide (a9.Kind=2))) (fun hc12=>?_) (fun hc12=>?_)
 ·rw [iteT hc12] at hF9
  simp only [q3s,qf,qe,qo,qb,o7,o8,o9,qn,ql,B0,reduceIte,a8]
  refine qd (v := .int .i64 a9.N) rfl ?_
  simp only [zi,B0,reduceIte,a8]
  refine jx rfl (qt zb (qt zb (qt zb zm))) (ya (fun b hb=>decide_eq_true hb) a9.N 0 99 _ rfl) ?_
  simp only [jq,qb,kq,qg,B0,reduceIte,a8]
  refine jf 7 (fun fr' h'=>Sep h' lo (f4++([Blk1 pb0 [d6,
    d7] 29]++(d9++(S0))))∧fr' 32 = .bool ((!(zg a9.N 0 99))||(decide ((p9 x7.Log:Int)=30)))∧fr' 3 = .ref [.int .i64 a9.Kind,
    .int .i64 a9.K,.int .i64 a9.To,.int .i64 a9.N] 0∧fr' 5 = .ptr b10 (a9.K.toNat*5)) (fun Q13 hN14=>?_) ?_
  ·simp only [s5,t4]
   simp only [qc (g:=25),B0,reduceIte,a8]
   refine zf (t:=(!(zg a9.N 0 99))) (fun hg15=>?_) (fun hg15=>?_)
   ·simp only [hg15,qc (g:=25),zx,qw,qb,zo,qa,qm,B0,reduceIte,a8]
    exact hN14 _ _ ⟨(s9 (t6 (s9 hS6))),by rw [orT hg15]; simp only [B0,reduceIte,a8],rfl,rfl⟩
   ·obtain ⟨c16,cs17,os18,hv19,hR20,hS21⟩:=a2d (a2f e9 hb11 Peer.RO.len) hx8 zt Peer.RO.len (t6 hS6)
    obtain ⟨v23,c24,v27,c28,hv25,hv29,rfl,rfl⟩:=hR20
    have hS22:=a2j hS21
    simp only [hg15,qc (g:=25),qr,qg,wb,qb,zv,qo,o7,o8,o9,qv,ql,B0,reduceIte,
      a8]
    refine qd (v:=v23) ((a15 (o:=2) hv19 rfl hx8 hS22 (nle rfl)).trans rfl) ?_
    simp only [hg15,qc (g:=25),qr,zq,qb,a1p hv25,qx,ku,qw,zn,qa,qm,B0,reduceIte,a8]
    exact hN14 _ _ ⟨(s9 (t6 (s9 hS6))),by rw [orF hg15]; simp only [B0,reduceIte,a8],rfl,rfl⟩
  rintro fr31 h35 ⟨hS36,f32,f33,f34⟩
  simp only [s6,t3]
  simp only [qa,f32,q8,B0,reduceIte,a8]
  refine q9 (t:=((!(zg a9.N 0 99))||(decide ((p9 x7.Log:Int)=30)))) (fun hc37=>?_) (fun hc37=>?_)
  ·rw [iteT hc37] at hF9
   simp only [qf,qe,qg,qa,zc,B0,reduceIte,a8]
   have he:=qj hF9
   subst he
   simp only [zr,B0,reduceIte,a8]
   exact ⟨f4,d7,d9,by first | trivial | rfl,e9,e8,(s9 (t6 (s9 hS36)))⟩
  rw [iteF hc37] at hF9
  obtain ⟨c38,cs39,os40,hv41,hR42,hS43⟩:=a2d (a2f e9 hb11 Peer.RO.len) hx8 zt Peer.RO.len hS36
  obtain ⟨v45,c46,v49,c50,hv47,hv51,rfl,rfl⟩:=hR42
  have hS44:=a2j hS43
  simp only [zd,q9n,qf,jg,f34,ql4,qi,zz,js,zv,zl,o7,o8,o9,qv,zj,B0,
    reduceIte,a8]
  refine qq (v:=v45) ((a15 (o:=2) hv41 rfl hx8 hS44 (nle rfl)).trans rfl) ?_
  simp only [f34,zz,qi,js,zv,zl,o7,o8,o9,qv,zj,B0,reduceIte,a8]
  refine qq (v := .int .i64 x7.Term) ((a15 (o:=0) hv41 rfl hx8 hS44 (nle rfl)).trans rfl) ?_
  simp only [f33,zl,qi,o7,o8,o9,qn,zj,B0,reduceIte,a8]
  refine qq (v := .int .i64 a9.N) rfl ?_
  simp only [qfw,evp,B0,reduceIte,a8]
  refine qq (v := .agg [.int .i64 x7.Term,.int .i64 a9.N]) rfl ?_
  simp only [qa6,evp,B0,reduceIte,a8]
  refine qg0 (n:=2) (f:=qh) [(Entry.mk x7.Term a9.N)] hS44 rfl rfl (fun v53 c54 h55 hv56 hS57=>?_)
  simp only [qgp,B0,reduceIte,a8]
  obtain ⟨l59,hx60,hF61⟩:=qk hF9
  refine qjm (f:=qh) hv47 (s9 hS57) hW (fun _=>rfl) (fun _=>rfl) (SlF.first hv56 hS57 (fun _=>rfl)) hx60 (fun v62 c63 h64 hv65 hS66=>?_)
  simp only [js,qi,zv,zl,o7,o8,o9,qv,xx,B0,reduceIte,a8]
  refine qd3 (n:=5) (us:=[v62]) (cs:=[.int .i64 x7.Term,.bool x7.Leads,v45,.int .i64 x7.Commit,v49]) (o:=2) (cs':=[.int .i64 x7.Term,.bool x7.Leads,v62,
    .int .i64 x7.Commit,v49]) (jp (a01 hv65)) hv41 rfl hx8 (s9 hS66) hW rfl (qp (a01 hv65) zp) (nle rfl) rfl (fun c70 h68 hv71 hS69=>?_)
  simp only [za,q6l,qf,jg,f34,zz,qi,js,zv,zl,o7,o8,o9,qv,zj,B0,reduceIte,
    a8]
  refine qq (v:=v49) ((a15 (o:=4) hv71 rfl hx8 hS69 (nle rfl)).trans rfl) ?_
  simp only [f33,zl,qi,o7,o8,o9,qn,zj,B0,reduceIte,a8]
  refine qq (v := .int .i64 a9.K) rfl ?_
  simp only [f34,zz,qi,js,zv,zl,o7,o8,o9,qv,zj,B0,reduceIte,a8]
  refine qq (v:=v62) ((a15 (o:=2) hv71 rfl hx8 hS69 (nle rfl)).trans rfl) ?_
  obtain ⟨x72,hx73,hF74⟩:=qk hF61
  simp only [wm,qi,a1p hv65,yh,B0,reduceIte,a8]
  obtain ⟨b75,hb76⟩:=a19 hv51 (j7 hx73)
  refine qq (a27 hv51 hb76 hx73) ?_
  simp only [xx,B0,reduceIte,a8]
  refine qe6 (f:=cI) (x':=(p9 l59:Int)) (o:=0) hv51 (t5 hS69) hW hb76 hx73 (fun _=>rfl) rfl rfl (nle rfl) rfl (fun c79 h77 hv80 hS78=>?_)
  have hx81:=kt (x':=(p9 l59:Int)) hx73
  simp only [za,qf,qe,qg,qa,zc,B0,reduceIte,a8]
  obtain ⟨c82,hv83,hS84⟩:=a3e (e':=(Peer.mk x7.Term x7.Leads l59 x7.Commit (a1b x7.Match a9.K.toNat (p9 l59:Int)))) (c:=c70) (os:=c63 ++
    (c79)) hv71 rfl hx8 zt (Peer.RI (x:=(Peer.mk x7.Term x7.Leads l59 x7.Commit (a1b x7.Match a9.K.toNat (p9 l59:Int)))) hv65 hv80) (a1f
    (c1:=c63) (c2:=c79) (s9 (s9 hS78)))
  have hx85:=kt (x':=(Peer.mk x7.Term x7.Leads l59 x7.Commit (a1b x7.Match a9.K.toNat (p9 l59:Int)))) hx8
  have hv86:=a1e hv83
  have he:=qj hF74
  subst he
  simp only [zr,B0,reduceIte,a8]
  exact ⟨c82,d7,d9,by first | trivial | rfl,hv86,e8,(s9 (t6 (s9 (a0k (t6 hS84)))))⟩
 rw [iteF hc12] at hF9
 simp only [qvy,qf,qe,qx,qb,ku,qg,qa,quh,q8,B0,reduceIte,a8]
 refine q9 (t:=(decide (a9.Kind=3))) (fun hc87=>?_) (fun hc87=>?_)
 ·rw [iteT hc87] at hF9
  simp only [qsg,qf,jg,zl,qi,o7,o8,o9,qn,zj,B0,reduceIte,a8]
  refine qq (v := .int .i64 a9.To) rfl ?_
  simp only [zf0,zz,qi,js,zv,zl,o7,o8,o9,qv,zj,B0,reduceIte,a8]
  refine qq (v:=d6) ((ja (a0g _ _ _ hS6)).trans rfl) ?_
  simp only [wm,qi,SlN.len e9,j5,qbp,xa,B0,reduceIte,a8]
  refine qfm rfl (qt zb (qt zb (qt zb zm))) (ya (fun b hb=>decide_eq_true hb) a9.To 0 (r8 .i64
    ((p9 d8.Peers:Int) - 1)) _ rfl) ?_
  simp only [qjb,qi,kq,zz,B0,reduceIte,a8]
  refine qac 6 (fun fr' h'=>Sep h' lo ([Blk1 pb0 [d6,
    d7] 29]++(f4++(d9++(S0))))∧fr' 79 = .bool ((!(zg a9.To 0 (r8 .i64 ((p9 d8.Peers:Int) - 1))))||(decide
    (a9.To=a9.K)))∧fr' 0 = .ptr pb0 0∧fr' 3 = .ref [.int .i64 a9.Kind,.int .i64 a9.K,.int .i64 a9.To,
    .int .i64 a9.N] 0∧fr' 5 = .ptr b10 (a9.K.toNat*5)) rfl (fun Q88 hN89=>?_) ?_
  ·simp only [s5,t4]
   simp only [qz (g:=73),B0,reduceIte,a8]
   refine ky (t:=(!(zg a9.To 0 (r8 .i64 ((p9 d8.Peers:Int) - 1))))) (fun hg90=>?_) (fun hg90=>?_)
   ·simp only [hg90,qz (g:=73),xw,ki,qi,zo,za,qm,B0,reduceIte,a8]
    exact hN89 _ _ ⟨(s9 (s9 (s9 hS6))),by rw [orT hg90]; simp only [B0,reduceIte,a8],zf0,rfl,rfl⟩
   ·simp only [hg90,qz (g:=73),jb,zl,qi,o7,o8,o9,qn,zj,B0,reduceIte,a8]
    refine qq (v := .int .i64 a9.To) rfl ?_
    simp only [hg90,qz (g:=73),jb,zl,qi,o7,o8,o9,qn,zj,B0,reduceIte,a8]
    refine qq (v := .int .i64 a9.K) rfl ?_
    simp only [hg90,qz (g:=73),jb,j5,qi,ku,ki,zn,za,qm,B0,reduceIte,a8]
    exact hN89 _ _ ⟨(s9 (s9 (s9 hS6))),by rw [orF hg90]; simp only [B0,reduceIte,a8],zf0,rfl,rfl⟩
  rintro fr91 h96 ⟨hS97,f92,f93,f94,f95⟩
  simp only [s6,t3]
  simp only [f92,zz,qi,B0,reduceIte,a8]
  simp only [qz (g:=80),B0,reduceIte,a8]
  refine ky (t:=((!(zg a9.To 0 (r8 .i64 ((p9 d8.Peers:Int) - 1))))||(decide (a9.To=a9.K)))) (fun hg98=>?_) (fun hg98=>?_)
  ·rw [iteT hg98] at hF9
   simp only [hg98,qz (g:=80),xw,ki,qi,zo,zz,qz (g:=91),za,q8,qnm,qf,qe,qg,
     qa,zc,B0,reduceIte,a8]
   have he:=qj hF9
   subst he
   simp only [zr,B0,reduceIte,a8]
   exact ⟨f4,d7,d9,by first | trivial | rfl,e9,e8,(s9 (s9 (s9 hS97)))⟩
  rw [iteF hg98] at hF9
  simp only [hg98,qz (g:=80),jb,f94,zl,qi,o7,o8,o9,qn,zj,B0,reduceIte,a8]
  refine qq (v := .int .i64 a9.N) rfl ?_
  obtain ⟨c99,cs100,os101,hv102,hR103,hS104⟩:=a2d (a2f e9 hb11 Peer.RO.len) hx8 zt Peer.RO.len (t6 hS97)
  obtain ⟨v106,c107,v110,c111,hv108,hv112,rfl,rfl⟩:=hR103
  have hS105:=a2j hS104
  simp only [hg98,qz (g:=80),jb,f95,zz,qi,js,zv,zl,o7,o8,o9,qv,zj,B0,reduceIte,
    a8]
  refine qq (v:=v106) ((a15 (o:=2) hv102 rfl hx8 hS105 (nle rfl)).trans rfl) ?_
  simp only [hg98,qz (g:=80),jb,wm,qi,a1p hv108,xa,B0,reduceIte,a8]
  refine qfm rfl (qt zb (qt zb (qt zb zm))) (ya (fun b hb=>decide_eq_true hb) a9.N 0 (p9 x7.Log:Int) _ rfl) ?_
  simp only [hg98,qz (g:=80),jb,qjb,qi,kq,ki,zn,zz,B0,reduceIte,a8]
  refine qac 7 (fun fr' h'=>Sep h' lo ([Blk1 pb0 [d6,
    d7] 29]++(c99++(d9++(c107++(c111++(S0))))))∧fr' 98 = .bool ((!(zg a9.N 0 (p9 x7.Log:Int)))||(decide
    ((p9 d8.Mail:Int)=20)))∧fr' 0 = .ptr pb0 0∧fr' 3 = .ref [.int .i64 a9.Kind,.int .i64 a9.K,.int .i64 a9.To,
    .int .i64 a9.N] 0∧fr' 5 = .ptr b10 (a9.K.toNat*5)) rfl (fun Q114 hN115=>?_) ?_
  ·simp only [s5,t4]
   simp only [qz (g:=91),B0,reduceIte,a8]
   refine ky (t:=(!(zg a9.N 0 (p9 x7.Log:Int)))) (fun hg116=>?_) (fun hg116=>?_)
   ·simp only [hg116,qz (g:=91),xw,ki,qi,zo,za,qm,B0,reduceIte,a8]
    exact hN115 _ _ ⟨(a0j (t5 (a0j (s9 (s9 hS105))))),by rw [orT hg116]; simp only [B0,reduceIte,a8],f93,f94,f95⟩
   ·simp only [hg116,qz (g:=91),jb,f93,zz,qi,js,zv,zl,o7,o8,o9,qv,zj,B0,
     reduceIte,a8]
    refine qq (v:=d7) ((ja (a0g _ _ _ (t5 hS105))).trans rfl) ?_
    simp only [hg116,qz (g:=91),jb,wm,qi,SlN.len e8,j5,ku,ki,zn,za,qm,B0,reduceIte,a8]
    exact hN115 _ _ ⟨(a0j (t5 (a0j (s9 (s9 hS105))))),by rw [orF hg116]; simp only [B0,reduceIte,a8],f93,f94,f95⟩
  rintro fr117 h122 ⟨hS123,f118,f119,f120,f121⟩
  simp only [s6,t3]
  simp only [za,f118,q8,B0,reduceIte,a8]
  refine q9 (t:=((!(zg a9.N 0 (p9 x7.Log:Int)))||(decide ((p9 d8.Mail:Int)=20)))) (fun hc124=>?_) (fun hc124=>?_)
  ·rw [iteT hc124] at hF9
   simp only [qf,qe,qg,qa,zc,B0,reduceIte,a8]
   obtain ⟨c125,hv126,hS127⟩:=a1h (c:=c99) (os:=c107++(c111)) hv102 rfl hx8 zt (Peer.RI (x:=x7) hv108 hv112) (a1f (c1:=c107) (c2:=c111) (t5
     (a0j (a0j hS123))))
   have hv128:=a1e hv126
   have he:=qj hF9
   subst he
   simp only [zr,B0,reduceIte,a8]
   exact ⟨c125,d7,d9,by first | trivial | rfl,hv128,e8,(s9 (t6 (s9 hS127)))⟩
  rw [iteF hc124] at hF9
  simp only [zd,qzq,qf,jg,f120,zl,qi,o7,o8,o9,qn,zj,B0,reduceIte,a8]
  refine qq (v := .int .i64 a9.K) rfl ?_
  simp only [f120,zl,qi,o7,o8,o9,qn,zj,B0,reduceIte,a8]
  refine qq (v := .int .i64 a9.To) rfl ?_
  simp only [f121,zz,qi,js,zv,zl,o7,o8,o9,qv,zj,B0,reduceIte,a8]
  refine qq (v := .int .i64 x7.Term) ((a15 (o:=0) hv102 rfl hx8 (t6 hS123) (nle rfl)).trans rfl) ?_
  simp only [f120,zl,qi,o7,o8,o9,qn,zj,B0,reduceIte,a8]
  refine qq (v := .int .i64 a9.N) rfl ?_
  simp only [f121,zz,qi,js,zv,zl,o7,o8,o9,qv,zj,B0,reduceIte,a8]
  refine qq (v := .int .i64 x7.Commit) ((a15 (o:=3) hv102 rfl hx8 (t6 hS123) (nle rfl)).trans rfl) ?_
  simp only [qfw,evp,B0,reduceIte,a8]
  refine qq (v := .agg [.bool false,.int .i64 a9.K,.int .i64 a9.To,.int .i64 x7.Term,.int .i64 a9.N,.int .i64 (-1),.nil,.int .i64 x7.Commit,.int .i64 0]) rfl ?_
  simp only [zda,B0,reduceIte,a8]
  refine qji hS123 (fun b129 h130 hS131=>?_)
  simp only [xx,B0,reduceIte,a8]
  refine ua (us:=[.bool false,.int .i64 a9.K,.int .i64 a9.To,.int .i64 x7.Term,.int .i64 a9.N,.int .i64 (-1),.nil,.int .i64 x7.Commit,
    .int .i64 0]) rfl (cs':=[.bool false,.int .i64 a9.K,.int .i64 a9.To,.int .i64 x7.Term,.int .i64 a9.N,.int .i64 (-1),.nil,.int .i64 x7.Commit,
    .int .i64 0]) hS131 hW rfl rfl (nle rfl) rfl (fun h133 hS134=>?_)
  simp only [za,qth,qf,qe,f120,qo,qb,o7,o8,o9,qn,ql,B0,reduceIte,a8]
  refine qd (v := .int .i64 a9.N) rfl ?_
  simp only [qx,qb,ww,qa,q70,q8,B0,reduceIte,a8]
  obtain ⟨c135,hv136,hS137⟩:=a1h (c:=c99) (os:=c107++(c111)) hv102 rfl hx8 zt (Peer.RI (x:=x7) hv108 hv112) (a1f (c1:=c107) (c2:=c111) (a0j
    (t8 (t8 hS134))))
  have hv138:=a1e hv136
  obtain ⟨sv146,hX144,hk145⟩:=qk hF9
  refine wj (t:=(decide ((0:Int)<a9.N))) (fun fr' h'=>∃ c140,fr' 0 = .ptr pb0 0∧fr' 3 = .ref [.int .i64 a9.Kind,.int .i64 a9.K,.int .i64 a9.To,
    .int .i64 a9.N] 0∧fr' 5 = .ptr b10 (a9.K.toNat*5)∧fr' 6 = .ptr b129 0∧SlN Peer.R 5 43 d6 sv146.1 c140∧Sep h' lo ([Blk1 pb0 [d6,
    d7] 29]++(c140++([Blk1 b129 [.bool sv146.2.Reply,.int .i64 sv146.2.From,.int .i64 sv146.2.To,.int .i64 sv146.2.Term,.int .i64 sv146.2.Prev,
    .int .i64 sv146.2.PTerm,.nil,.int .i64 sv146.2.Commit,.int .i64 sv146.2.Match] 86]++(d9++(S0)))))) (fun Q147 hN148 hR149 hE150=>⟨fun hc151=>?_,
    fun hc151=>?_⟩) ?_
  ·rw [iteT hc151] at hX144
   obtain ⟨c152,cs153,os154,hv155,hR156,hS157⟩:=a2d (a2f hv138 hb11 Peer.RO.len) hx8 zt Peer.RO.len hS137
   obtain ⟨v159,c160,v163,c164,hv161,hv165,rfl,rfl⟩:=hR156
   have hS158:=a2j hS157
   simp only [q6n,jg,f121,zz,qi,js,zv,zl,o7,o8,o9,qv,zj,B0,reduceIte,a8]
   refine qq (v:=v159) ((a15 (o:=2) hv155 rfl hx8 hS158 (nle rfl)).trans rfl) ?_
   simp only [f120,zl,qi,o7,o8,o9,qn,zj,B0,reduceIte,a8]
   refine qq (v := .int .i64 a9.N) rfl ?_
   obtain ⟨x167,hx168,hF169⟩:=qk hX144
   simp only [j5,qi,qbp,yh,B0,reduceIte,a8]
   obtain ⟨b170,hb171⟩:=a19 hv161 (j7 hx168)
   refine qq (a27 hv161 hb171 hx168) ?_
   simp only [zl,qi,o7,o8,o9,qv,zj,B0,reduceIte,a8]
   refine qq (v := .int .i64 x167.Term) ((SlF.ld (o:=0) hv161 (t6 hS158) hb171 hx168 (fun _=>rfl) (nle rfl)).trans rfl) ?_
   simp only [zl,qi,o7,o8,o9,qv,xx,B0,reduceIte,a8]
   refine ua (us:=[.int .i64 x167.Term]) rfl (cs':=[.bool false,.int .i64 a9.K,.int .i64 a9.To,.int .i64 x7.Term,.int .i64 a9.N,.int .i64 x167.Term,.nil,
     .int .i64 x7.Commit,.int .i64 0]) (t5 hS158) hW rfl rfl (nle rfl) rfl (fun h172 hS173=>?_)
   simp only [za,qm,B0,reduceIte,a8]
   obtain ⟨c174,hv175,hS176⟩:=a1h (c:=c152) (os:=c160++(c164)) hv155 rfl hx8 zt (Peer.RI (x:=x7) hv161 hv165) (a1f (c1:=c160) (c2:=c164) (t5
     (t5 (t5 hS173))))
   have hv177:=a1e hv175
   have e178:=qj hF169
   subst e178
   exact hN148 _ _ ⟨c174,f119,f120,f121,rfl,hv177,(t5 (s9 (s9 (t5 hS176))))⟩
  ·rw [iteF hc151] at hX144
   simp only [zd,qm,B0,reduceIte,a8]
   have e179:=qj hX144
   subst e179
   exact hN148 _ _ ⟨c135,f119,f120,f121,rfl,hv138,(t5 (s9 (s9 (t5 hS137))))⟩
  rintro fr180 h181 ⟨c140,f183,f184,f185,f186,hv141,hS182⟩
  obtain ⟨s139,s142⟩:=sv146
  dsimp only at *
  unfold qam at hk145
  simp only [q6x,qf,jg,f184,zl,qi,o7,o8,o9,qn,zj,B0,reduceIte,a8]
  refine qq (v := .int .i64 a9.N) rfl ?_
  obtain ⟨x187,hx188,hF189⟩:=qk hk145
  obtain ⟨c190,cs191,os192,hv193,hR194,hS195⟩:=a2d (a2f hv141 hb11 Peer.RO.len) hx188 zt Peer.RO.len (t6 hS182)
  obtain ⟨v197,c198,v201,c202,hv199,hv203,rfl,rfl⟩:=hR194
  have hS196:=a2j hS195
  simp only [f185,zz,qi,js,zv,zl,o7,o8,o9,qv,zj,B0,reduceIte,a8]
  refine qq (v:=v197) ((a15 (o:=2) hv193 rfl hx188 hS196 (nle rfl)).trans rfl) ?_
  simp only [wm,qi,a1p hv199,j5,qch,za,q34,q8,B0,reduceIte,a8]
  obtain ⟨c205,hv206,hS207⟩:=a1h (c:=c190) (os:=c198++(c202)) hv193 rfl hx188 zt (Peer.RI (x:=x187) hv199 hv203) (a1f (c1:=c198) (c2:=c202) (s9
    (s9 (s9 hS196))))
  have hv208:=a1e hv206
  obtain ⟨sv220,hX218,hk219⟩:=qk hF189
  refine wj (t:=(decide (a9.N<(p9 x187.Log:Int)))) (fun fr' h'=>∃ v211 c212 c215,
    fr' 0 = .ptr pb0 0∧fr' 6 = .ptr b129 0∧SlF qh 2 65 v211 sv220.1.Entry c212∧SlN Peer.R 5 43 d6 sv220.2 c215∧Sep h' lo ([Blk1 pb0 [d6,
    d7] 29]++([Blk1 b129 [.bool sv220.1.Reply,.int .i64 sv220.1.From,.int .i64 sv220.1.To,.int .i64 sv220.1.Term,.int .i64 sv220.1.Prev,.int .i64 sv220.1.PTerm,
    v211,.int .i64 sv220.1.Commit,.int .i64 sv220.1.Match] 86]++(c215++(d9++(c212++(S0))))))) (fun Q221 hN222 hR223 hE224=>⟨fun hc225=>?_,fun hc225=>?_⟩) ?_
  ·rw [iteT hc225] at hX218
   obtain ⟨c226,cs227,os228,hv229,hR230,hS231⟩:=a2d (a2f hv208 hb11 Peer.RO.len) hx188 zt Peer.RO.len hS207
   obtain ⟨v233,c234,v237,c238,hv235,hv239,rfl,rfl⟩:=hR230
   have hS232:=a2j hS231
   simp only [q5n,jg,f185,zz,qi,js,zv,zl,o7,o8,o9,qv,zj,B0,reduceIte,a8]
   refine qq (v:=v233) ((a15 (o:=2) hv229 rfl hx188 hS232 (nle rfl)).trans rfl) ?_
   simp only [f184,zl,qi,o7,o8,o9,qn,zj,B0,reduceIte,a8]
   refine qq (v := .int .i64 a9.N) rfl ?_
   obtain ⟨x241,hx242,hF243⟩:=qk hX218
   simp only [yh,B0,reduceIte,a8]
   obtain ⟨b244,hb245⟩:=a19 hv235 (j7 hx242)
   refine qq (a27 hv235 hb245 hx242) ?_
   simp only [zj,B0,reduceIte,a8]
   refine qq (v := .agg [.int .i64 x241.Term,.int .i64 x241.Value]) ((SlF.lds (o:=0) hv235 (t6 hS232) hb245 hx242 (fun _=>rfl) (nle rfl)).trans rfl) ?_
   simp only [qa6,evp,B0,reduceIte,a8]
   refine qg0 (n:=2) (f:=qh) [x241] hS232 rfl rfl (fun v246 c247 h248 hv249 hS250=>?_)
   simp only [f186,zl,qi,o7,o8,o9,qv,xx,B0,reduceIte,a8]
   refine ua (us:=[v246]) (jp (a01 hv249)) (cs':=[.bool s142.Reply,.int .i64 s142.From,.int .i64 s142.To,.int .i64 s142.Term,.int .i64 s142.Prev,
     .int .i64 s142.PTerm,v246,.int .i64 s142.Commit,.int .i64 s142.Match]) (t8 hS250) hW rfl (qp (a01 hv249) zp) (nle rfl) rfl (fun h252 hS253=>?_)
   simp only [za,qm,B0,reduceIte,a8]
   obtain ⟨c254,hv255,hS256⟩:=a1h (c:=c226) (os:=c234++(c238)) hv229 rfl hx188 zt (Peer.RI (x:=x187) hv235 hv239) (a1f (c1:=c234) (c2:=c238)
     (a0j (a0j (a0j hS253))))
   have hv257:=a1e hv255
   have e258:=qj hF243
   subst e258
   exact hN222 _ _ ⟨v246,c247,c254,f183,f186,hv249,hv257,(a0j (t5 (s9 (a0j (s9 hS256)))))⟩
  ·rw [iteF hc225] at hX218
   simp only [zd,qm,B0,reduceIte,a8]
   have e259:=qj hX218
   subst e259
   exact hN222 _ _ ⟨.nil,[],c205,f183,f186,SlF.nil,hv208,((t5 (t5 (t6 (t5 hS207)))) : Sep _ lo ([Blk1 pb0 [d6,
     d7] 29]++([Blk1 b129 [.bool s142.Reply,.int .i64 s142.From,.int .i64 s142.To,.int .i64 s142.Term,.int .i64 s142.Prev,.int .i64 s142.PTerm,.nil,
     .int .i64 s142.Commit,.int .i64 s142.Match] 86]++(c205++(d9++(S0))))))⟩
  rintro fr260 h261 ⟨v211,c212,c215,f263,f264,hv213,hv216,hS262⟩
  obtain ⟨s209,s214⟩:=sv220
  dsimp only at *
  unfold qew at hk219
  simp only [q8a,qf,jg,f263,ql4,qi,zz,js,zv,zl,o7,o8,o9,qv,zj,B0,reduceIte,
    a8]
  refine qq (v:=d7) ((ja (a0g _ _ _ hS262)).trans rfl) ?_
  simp only [f264,zj,B0,reduceIte,a8]
  refine qq (v := .agg [.bool s209.Reply,.int .i64 s209.From,.int .i64 s209.To,.int .i64 s209.Term,.int .i64 s209.Prev,.int .i64 s209.PTerm,v211,
    .int .i64 s209.Commit,.int .i64 s209.Match]) ((zw (a0g _ _ _ (t6 hS262))).trans rfl) ?_
  simp only [qa6,evp,B0,reduceIte,a8]
  refine qem (R:=Mail.R) (n:=9) (cs:=[.bool s209.Reply,.int .i64 s209.From,.int .i64 s209.To,.int .i64 s209.Term,.int .i64 s209.Prev,.int .i64 s209.PTerm,
    v211,.int .i64 s209.Commit,.int .i64 s209.Match]) (os:=c212) (a0j hS262) (qel (us:=[.bool s209.Reply,.int .i64 s209.From,.int .i64 s209.To,
    .int .i64 s209.Term,.int .i64 s209.Prev,.int .i64 s209.PTerm,v211,.int .i64 s209.Commit,.int .i64 s209.Match]) (vs:=[.bool s209.Reply,.int .i64 s209.From,
    .int .i64 s209.To,.int .i64 s209.Term,.int .i64 s209.Prev,.int .i64 s209.PTerm,v211,.int .i64 s209.Commit,
    .int .i64 s209.Match]) rfl rfl (nle rfl) (qp rfl (qp rfl (qp rfl (qp rfl (qp rfl (qp rfl (qp (a01 hv213) (qp rfl
    (qp rfl zp))))))))) rfl qek) (Mail.RI (x:=s209) hv213) rfl (fun v265 c266 h267 hv268 hS269=>?_)
  simp only [qgp,B0,reduceIte,a8]
  obtain ⟨l271,hx272,hF273⟩:=qk hk219
  refine qg8 (R:=Mail.R) (c:=d9) e8 hv268 (a0j hS269) hW Mail.RO.len Mail.RO.one hx272 (fun v274 c275 h276 hv277 hS278=>?_)
  simp only [js,qi,zv,zl,o7,o8,o9,qv,xx,B0,reduceIte,a8]
  refine ua (us:=[v274]) (jp (a0n hv277)) (cs':=[d6,v274]) (t6 hS278) hW rfl (qp (a0n hv277) zp) (nle rfl) rfl (fun h280 hS281=>?_)
  simp only [za,qf,qe,qg,qa,zc,B0,reduceIte,a8]
  have he:=qj hF273
  subst he
  simp only [zr,B0,reduceIte,a8]
  exact ⟨c215,v274,c275,by first | trivial | rfl,hv216,hv277,(s9 (s9 (t6 (a0k (s9 hS281)))))⟩
 rw [iteF hc87] at hF9
 obtain ⟨c284,cs285,os286,hv287,hR288,hS289⟩:=a2d (a2f e9 hb11 Peer.RO.len) hx8 zt Peer.RO.len (t6 hS6)
 obtain ⟨v291,c292,v295,c296,hv293,hv297,rfl,rfl⟩:=hR288
 have hS290:=a2j hS289
 simp only [zd,w6,qx3,qf,qe,qg,qa,qsz,wb,qb,zv,qo,o7,o8,o9,qv,
   ql,B0,reduceIte,a8]
 refine qd (v:=v295) ((a15 (o:=4) hv287 rfl hx8 hS290 (nle rfl)).trans rfl) ?_
 simp only [zq,qb,a1p hv297,qg,qa,B0,reduceIte,a8]
 obtain ⟨oc303,hX305,hk306⟩:=kd hF9
 simp only [qxb]
 refine qas (σ:=Int) (fun i301 s334=>qc2 a9 x7 i301 s334) (fun s fr' h'=>fr' 0 = .ptr pb0 0∧fr' 3 = .ref [.int .i64 a9.Kind,.int .i64 a9.K,
   .int .i64 a9.To,.int .i64 a9.N] 0∧fr' 5 = .ptr b10 (a9.K.toNat*5)∧fr' 7 = .int .i64 s∧fr' 159=v295∧Sep h' lo ([Blk1 pb0 [d6,
   d7] 29]++(c284++(c296++(d9++(c292++(S0))))))) hX305 ⟨zf0,rfl,rfl,rfl,rfl,(a0j (t5 (t5 (a0j (t6 hS290)))))⟩ (by simp only [B0,
   reduceIte,a8]) (by simp only [B0,reduceIte,
   a8]) (fun _ _ _ h=>h) rfl rfl (fun _ _ _ _ h=>h) (fun _ _ _ _ h=>h) (fun _ _ _ _ h=>h) (by decide) ?_ ?_
 ·rintro i301 s300 fr315 h316 hx323 ⟨f318,f319,f320,f321,f322,hS317⟩ f324 f325 oc304 hF307 hr308 Q309 hN310 hB314 hK311 hR312 hE313
  unfold qc2 at hF307
  obtain ⟨x326,hx327,hF328⟩:=qk hF307
  simp only [qw5,qf,qe,f322,f324,jj,B0,reduceIte,a8]
  obtain ⟨b329,hb330⟩:=a19 hv297 (j7 hx327)
  refine qd (a27 hv297 hb330 hx327) ?_
  simp only [ql,B0,reduceIte,a8]
  refine qd (v := .int .i64 x326) ((SlF.ld (o:=0) hv297 (s9 hS317) hb330 hx327 (fun _=>rfl) (nle rfl)).trans rfl) ?_
  simp only [qg,qa,qyn,qf,qe,f319,qo,qb,o7,o8,o9,qn,ql,B0,reduceIte,a8]
  refine qd (v := .int .i64 a9.N) rfl ?_
  simp only [qx,qb,qga,qa,qxp,q8,B0,reduceIte,a8]
  refine q9 (t:=(decide (a9.N≤x326))) (fun hc331=>?_) (fun hc331=>?_)
  ·rw [iteT hc331] at hF328
   simp only [qe,f321,qg,qx,qb,ur,qa,qm,B0,reduceIte,a8]
   have e332:=qj hF328
   exact hN310 _ _ _ e332.symm ⟨f318,f319,f320,rfl,f322,(a0j (a0j (a0j (a0j (a0j hS317)))))⟩ (f324) (f325)
  rw [iteF hc331] at hF328
  simp only [zd,qm,B0,reduceIte,a8]
  have e333:=qj hF328
  exact hN310 _ _ _ e333.symm ⟨f318,f319,f320,f321,f322,(a0j (a0j (a0j (a0j (a0j hS317)))))⟩ (f324) (f325)
 rintro s335 fr336 h337 rfl ⟨f339,f340,f341,f342,f343,hS338⟩
 dsimp only [jnO] at hk306
 unfold qcz at hk306
 simp only [qvh,qf,jg,f340,zl,qi,o7,o8,o9,qn,zj,B0,reduceIte,a8]
 refine qq (v := .int .i64 a9.N) rfl ?_
 simp only [f341,zz,qi,js,zv,zl,o7,o8,o9,qv,zj,B0,reduceIte,a8]
 refine qq (v := .int .i64 x7.Commit) ((a15 (o:=3) hv287 rfl hx8 (t6 hS338) (nle rfl)).trans rfl) ?_
 simp only [j5,qi,ur,f341,zz,js,zv,zl,o7,o8,o9,qv,zj,B0,reduceIte,a8]
 refine qq (v:=v291) ((a15 (o:=2) hv287 rfl hx8 (t6 hS338) (nle rfl)).trans rfl) ?_
 simp only [wm,qi,a1p hv293,xa,B0,reduceIte,a8]
 refine qfm rfl (qt zb (qt zb (qt zb zm))) (ya (fun b hb=>decide_eq_true hb) a9.N (r8 .i64 (x7.Commit+1))
   (p9 x7.Log:Int) _ rfl) ?_
 simp only [qjb,qi,kq,zz,B0,reduceIte,a8]
 obtain ⟨v347,hx348,hF349⟩:=qk hk306
 refine qac 16 (fun fr' h'=>Sep h' lo ([Blk1 pb0 [d6,
   d7] 29]++(c284++(d9++(c292++(c296++(S0))))))∧fr' 202 = .bool v347∧fr' 0 = .ptr pb0 0∧fr' 3 = .ref [.int .i64 a9.Kind,.int .i64 a9.K,
   .int .i64 a9.To,.int .i64 a9.N] 0∧fr' 5 = .ptr b10 (a9.K.toNat*5)∧fr' 7 = .int .i64 s335) rfl (fun Q344 hN345=>?_) ?_
 ·simp only [s5,t4]
  simp only [qz (g:=186),B0,reduceIte,a8]
  refine ky (t:=(!(zg a9.N (r8 .i64 (x7.Commit+1)) (p9 x7.Log:Int)))) (fun hg346=>?_) (fun hg346=>?_)
  ·rw [iteT hg346] at hx348
   simp only [hg346,qz (g:=186),xw,ki,qi,zo,za,qm,B0,reduceIte,a8]
   have e350:=qj hx348
   exact hN345 _ _ ⟨(a0j (a0j (a0j (a0j (s9 hS338))))),by rw [←e350]; simp only [B0,reduceIte,a8],f339,f340,f341,f342⟩
  ·rw [iteF hg346] at hx348
   simp only [hg346,qz (g:=186),jb,f341,zz,qi,js,zv,zl,o7,o8,o9,qv,zj,B0,
     reduceIte,a8]
   refine qq (v:=v291) ((a15 (o:=2) hv287 rfl hx8 (t6 hS338) (nle rfl)).trans rfl) ?_
   simp only [hg346,qz (g:=186),jb,f340,zl,qi,o7,o8,o9,qn,zj,B0,reduceIte,a8]
   refine qq (v := .int .i64 a9.N) rfl ?_
   obtain ⟨x351,hx352,hF353⟩:=qk hx348
   simp only [hg346,qz (g:=186),jb,j5,qi,qbp,yh,B0,reduceIte,a8]
   obtain ⟨b354,hb355⟩:=a19 hv293 (j7 hx352)
   refine qq (a27 hv293 hb355 hx352) ?_
   simp only [hg346,qz (g:=186),jb,zl,qi,o7,o8,o9,qv,zj,B0,reduceIte,a8]
   refine qq (v := .int .i64 x351.Term) ((SlF.ld (o:=0) hv293 (a0j hS338) hb355 hx352 (fun _=>rfl) (nle rfl)).trans rfl) ?_
   simp only [hg346,qz (g:=186),jb,f341,zz,qi,js,zv,zl,o7,o8,o9,qv,zj,B0,
     reduceIte,a8]
   refine qq (v := .int .i64 x7.Term) ((a15 (o:=0) hv287 rfl hx8 (t6 hS338) (nle rfl)).trans rfl) ?_
   simp only [hg346,qz (g:=186),jb,j5,qi,wz,ki,zn,za,qm,B0,reduceIte,a8]
   have e356:=qj hF353
   exact hN345 _ _ ⟨(a0j (a0j (a0j (a0j (s9 hS338))))),by rw [←e356]; simp only [B0,reduceIte,a8],f339,f340,f341,f342⟩
 rintro fr357 h363 ⟨hS364,f358,f359,f360,f361,f362⟩
 simp only [s6,t3]
 simp only [f358,zz,qi,B0,reduceIte,a8]
 refine qac 9 (fun fr' h'=>Sep h' lo (c284++([Blk1 pb0 [d6,
   d7] 29]++(c292++(c296++(d9++(S0))))))∧fr' 212 = .bool (v347||(decide ((r8 .i64 ((2:Int)*s335)) ≤
   (p9 d8.Peers:Int))))∧fr' 3 = .ref [.int .i64 a9.Kind,.int .i64 a9.K,.int .i64 a9.To,
   .int .i64 a9.N] 0∧fr' 5 = .ptr b10 (a9.K.toNat*5)) rfl (fun Q365 hN366=>?_) ?_
 ·simp only [s5,t4]
  simp only [qz (g:=203),B0,reduceIte,a8]
  refine ky (t:=v347) (fun hg367=>?_) (fun hg367=>?_)
  ·simp only [hg367,qz (g:=203),xw,ki,qi,zo,za,qm,B0,reduceIte,a8]
   exact hN366 _ _ ⟨(a0j (t5 (a0j (a0j (s9 hS364))))),by rw [orT hg367]; simp only [B0,reduceIte,a8],f360,f361⟩
  ·simp only [hg367,qz (g:=203),jb,f362,zz,qi,j5,qmt,f359,js,zv,zl,o7,o8,o9,
    qv,zj,B0,reduceIte,a8]
   refine qq (v:=d6) ((ja (a0g _ _ _ hS364)).trans rfl) ?_
   simp only [hg367,qz (g:=203),jb,wm,qi,SlG.plen hv287,j5,qhn,ki,zn,za,qm,B0,reduceIte,a8]
   exact hN366 _ _ ⟨(a0j (t5 (a0j (a0j (s9 hS364))))),by rw [orF hg367]; simp only [B0,reduceIte,a8],f360,f361⟩
 rintro fr368 h372 ⟨hS373,f369,f370,f371⟩
 simp only [s6,t3]
 simp only [za,f369,q8,B0,reduceIte,a8]
 refine q9 (t:=(v347||(decide ((r8 .i64 ((2:Int)*s335))≤(p9 d8.Peers:Int))))) (fun hc374=>?_) (fun hc374=>?_)
 ·rw [iteT hc374] at hF349
  simp only [qf,qe,qg,qa,zc,B0,reduceIte,a8]
  obtain ⟨c375,hv376,hS377⟩:=a1h (c:=c284) (os:=c292++(c296)) hv287 rfl hx8 zt (Peer.RI (x:=x7) hv293 hv297) (a1f (c1:=c292) (c2:=c296) (s9
    (t5 (t5 hS373))))
  have hv378:=a1e hv376
  have he:=qj hF349
  subst he
  simp only [zr,B0,reduceIte,a8]
  exact ⟨c375,d7,d9,by first | trivial | rfl,hv378,e8,(s9 (t6 (s9 hS377)))⟩
 rw [iteF hc374] at hF349
 simp only [zd,qzo,qf,qe,f371,qg,f370,qo,qb,o7,o8,o9,qn,ql,B0,reduceIte,a8]
 refine qd (v := .int .i64 a9.N) rfl ?_
 simp only [wb,qb,zv,qo,o7,o8,o9,qv,zh,B0,reduceIte,a8]
 refine uh (n:=5) (us:=[.int .i64 a9.N]) (cs:=[.int .i64 x7.Term,.bool x7.Leads,v291,.int .i64 x7.Commit,v295]) (o:=3) (cs':=[.int .i64 x7.Term,
   .bool x7.Leads,v291,.int .i64 a9.N,v295]) rfl hv287 rfl hx8 hS373 hW rfl rfl (nle rfl) rfl (fun c381 h379 hv382 hS380=>?_)
 simp only [qa,qf,qe,qg,zc,B0,reduceIte,a8]
 obtain ⟨c383,hv384,hS385⟩:=a3e (e':=(Peer.mk x7.Term x7.Leads x7.Log a9.N x7.Match)) (c:=c381) (os:=c292++(c296)) hv382 rfl hx8 zt (Peer.RI (x :=
   (Peer.mk x7.Term x7.Leads x7.Log a9.N x7.Match)) hv293 hv297) (a1f (c1:=c292) (c2:=c296) (s9 (t5 (t5 hS380))))
 have hx386:=kt (x':=(Peer.mk x7.Term x7.Leads x7.Log a9.N x7.Match)) hx8
 have hv387:=a1e hv384
 have he:=qj hF349
 subst he
 simp only [zr,B0,reduceIte,a8]
 exact ⟨c383,d7,d9,by first | trivial | rfl,hv387,e8,(s9 (t6 (s9 hS385)))⟩
theorem qjn {W:Nat→Bool}{h:Heap}{lo:Nat→Prop}{S0:List Obj} (hW:∀ b,
  lo b→W b=true) (pv0:XV) (pc0:List Obj) (s_0:List Mail) (ph0:SlN Mail.R 9 86 pv0 s_0 pc0) (i_1:Int) (j_2:Int) (r:List Mail)
  (hF:xk s_0 i_1 j_2=some r) (hS:Sep h lo (pc0++S0)) : Ret E W 74 [pv0,.int .i64 i_1,.int .i64 j_2] h (fun v h'=>∃ rv0 rc0,
  v=rv0∧SlN Mail.R 9 86 rv0 r rc0∧Sep h' lo (rc0++S0)):=zbf (R:=Mail.R) (n:=9) (ty:=86) (bytes:=88) (z:=[(.bool false),(.int .i64 0),(.int .i64 0),
  (.int .i64 0),(.int .i64 0),(.int .i64 0),.nil,(.int .i64 0),(.int .i64 0)]) rfl Mail.RO.len Mail.RO.one rfl rfl rfl hW ph0 hF hS
theorem qjg {W:Nat→Bool}{h:Heap}{lo:Nat→Prop}{S0:List Obj} (hW:∀ b,
  lo b→W b=true) {pv0:XV} {pc0:List Obj} {s_0:List Mail} {i_1:Int} {cs:List XV} {b:Nat} (ph0:SlG Mail.R 9 86 pv0 s_0 [(i_1.toNat,
  cs)] b pc0) (r:List Mail) (hF:xk s_0 i_1 (r8 .i64 (i_1+1))=some r) (hS:Sep h lo (pc0++S0)) : Ret E W 74 [pv0,.int .i64 i_1,
  .int .i64 (r8 .i64 (i_1+1))] h (fun v h'=>∃ rv0 rc0,
  v=rv0∧SlN Mail.R 9 86 rv0 r rc0∧Sep h' lo (rc0++S0)):=zdd (R:=Mail.R) (n:=9) (ty:=86) (bytes:=88) (z:=[(.bool false),(.int .i64 0),(.int .i64 0),
  (.int .i64 0),(.int .i64 0),(.int .i64 0),.nil,(.int .i64 0),(.int .i64 0)]) rfl Mail.RO.len Mail.RO.one rfl rfl rfl hW ph0 rfl hF hS
end Go.Proofs.Ytanblnjomhgphaa.X
namespace Go.Proofs.Ytanblnjomhgphaa.X
open Go
theorem qk9 {W:Nat→Bool}{h:Heap}{lo:Nat→Prop}{S0:List Obj} (hW:∀ b,
  lo b→W b=true) (pb0:Nat) (d8:Raft) (d6:XV) (f4:List Obj) (e9:SlN Peer.R 5 43 d6 d8.Peers f4) (d7:XV) (d9:List Obj)
  (e8:SlN Mail.R 9 86 d7 d8.Mail d9) (a9:Mail) (f0:XV) (g8:List Obj) (i7:SlF qh 2 65 f0 a9.Entry g8) (r:Raft × Mail)
  (hF:qcp d8 a9=some r) (hS:Sep h lo ([Blk1 pb0 [d6,d7] 29]++(f4++(d9++(g8++(S0)))))) : Ret E W 75 [.ptr pb0 0,.agg [.bool a9.Reply,
  .int .i64 a9.From,.int .i64 a9.To,.int .i64 a9.Term,.int .i64 a9.Prev,.int .i64 a9.PTerm,f0,.int .i64 a9.Commit,
  .int .i64 a9.Match]] h (fun v h'=>∃ ic0_0 iv0_1 ic0_1 ic1_6,
  v = .tup []∧SlN Peer.R 5 43 d6 r.1.Peers ic0_0∧SlN Mail.R 9 86 iv0_1 r.1.Mail ic0_1∧SlF qh 2 65 f0 r.2.Entry ic1_6∧Sep h' lo ([Blk1 pb0 [d6,
  iv0_1] 29]++(ic0_0++(ic0_1++(ic1_6++(S0)))))):=by
 refine Ret.of (fn:=x75) rfl (Run.of ?_)
 unfold qcp at hF
 have zf0:zk [.ptr pb0 0,.agg [.bool a9.Reply,.int .i64 a9.From,.int .i64 a9.To,.int .i64 a9.Term,.int .i64 a9.Prev,.int .i64 a9.PTerm,f0,
   .int .i64 a9.Commit,.int .i64 a9.Match]] 0 = .ptr pb0 0:=rfl
 have zf1:zk [.ptr pb0 0,.agg [.bool a9.Reply,.int .i64 a9.From,.int .i64 a9.To,.int .i64 a9.Term,.int .i64 a9.Prev,.int .i64 a9.PTerm,f0,
   .int .i64 a9.Commit,.int .i64 a9.Match]] 1 = .agg [.bool a9.Reply,.int .i64 a9.From,.int .i64 a9.To,.int .i64 a9.Term,.int .i64 a9.Prev,.int .i64 a9.PTerm,
   f0,.int .i64 a9.Commit,.int .i64 a9.Match]:=rfl
 generalize zk [.ptr pb0 0,.agg [.bool a9.Reply,.int .i64 a9.From,.int .i64 a9.To,.int .i64 a9.Term,.int .i64 a9.Prev,.int .i64 a9.PTerm,f0,
   .int .i64 a9.Commit,.int .i64 a9.Match]]=fr0 at zf0 zf1 ⊢
 simp only [x75,qf,qe,ym,zf1,B0,reduceIte,a8]
 refine ko (cs:=[.bool a9.Reply,.int .i64 a9.From,.int .i64 a9.To,.int .i64 a9.Term,.int .i64 a9.Prev,.int .i64 a9.PTerm,f0,.int .i64 a9.Commit,
   .int .i64 a9.Match]) hS rfl rfl (qp rfl (qp rfl (qp rfl (qp rfl (qp rfl (qp rfl (qp (a01 i7) (qp rfl (qp rfl zp)))))))))
   (fun b1 h2 hS3=>?_)
 simp only [qa,B0,reduceIte,a8]
 refine jc hS3 hW (by simp only [B0,reduceIte,a8]) (fun h5 hS6=>?_)
 simp only [z5,qzs,qf,jg,zf0,zz,qi,js,zv,zl,o7,o8,o9,qv,zj,B0,reduceIte,
   a8]
 refine qq (v:=d6) ((ja (a0g _ _ _ hS6)).trans rfl) ?_
 simp only [zl,qi,o7,o8,o9,qn,zj,B0,reduceIte,a8]
 refine qq (v := .int .i64 a9.To) rfl ?_
 obtain ⟨x7,hx8,hF9⟩:=qk hF
 simp only [yh,B0,reduceIte,a8]
 obtain ⟨b10,hb11⟩:=SlN.isrow e9 (j7 hx8)
 refine qq (SlN.ia e9 hb11 hx8) ?_
 simp only [zz,qi,za,qxo,qf,jg,zl,o7,o8,o9,qn,zj,B0,reduceIte,a8]
 refine qq (v := .int .i64 a9.Term) rfl ?_
 obtain ⟨c12,cs13,os14,hv15,hR16,hS17⟩:=a2d (a2f e9 hb11 Peer.RO.len) hx8 zt Peer.RO.len (t6 hS6)
 obtain ⟨v19,c20,v23,c24,hv21,hv25,rfl,rfl⟩:=hR16
 have hS18:=a2j hS17
 simp only [zz,qi,js,zv,zl,o7,o8,o9,qv,zj,B0,reduceIte,a8]
 refine qq (v := .int .i64 x7.Term) ((a15 (o:=0) hv15 rfl hx8 hS18 (nle rfl)).trans rfl) ?_
 simp only [j5,qi,ww,za,q8x,q8,B0,reduceIte,a8]
 obtain ⟨c27,hv28,hS29⟩:=a1h (c:=c12) (os:=c20++(c24)) hv15 rfl hx8 zt (Peer.RI (x:=x7) hv21 hv25) (a1f (c1:=c20) (c2:=c24) (s9 (s9
   (s9 hS18))))
 have hv30:=a1e hv28
 obtain ⟨s31,hX35,hk36⟩:=qk hF9
 refine wj (t:=(decide (x7.Term<a9.Term))) (fun fr' h'=>∃ c32,fr' 0 = .ptr pb0 0∧fr' 3 = .ref [.bool a9.Reply,.int .i64 a9.From,.int .i64 a9.To,
   .int .i64 a9.Term,.int .i64 a9.Prev,.int .i64 a9.PTerm,f0,.int .i64 a9.Commit,
   .int .i64 a9.Match] 0∧fr' 4 = .ptr b10 (a9.To.toNat*5)∧SlN Peer.R 5 43 d6 s31 c32∧Sep h' lo ([Blk1 pb0 [d6,
   d7] 29]++(g8++(c32++(d9++(S0)))))) (fun Q37 hN38 hR39 hE40=>⟨fun hc41=>?_,fun hc41=>?_⟩) ?_
 ·rw [iteT hc41] at hX35
  simp only [q2k,qf,qe,qg,qo,qb,o7,o8,o9,qn,ql,B0,reduceIte,a8]
  refine qd (v := .int .i64 a9.Term) rfl ?_
  obtain ⟨c44,cs45,os46,hv47,hR48,hS49⟩:=a2d (a2f hv30 hb11 Peer.RO.len) hx8 zt Peer.RO.len hS29
  obtain ⟨v51,c52,v55,c56,hv53,hv57,rfl,rfl⟩:=hR48
  have hS50:=a2j hS49
  simp only [wb,qb,zv,qo,o7,o8,o9,qv,zh,B0,reduceIte,a8]
  refine uh (n:=5) (us:=[.int .i64 a9.Term]) (cs:=[.int .i64 x7.Term,.bool x7.Leads,v51,.int .i64 x7.Commit,v55]) (o:=0) (cs':=[.int .i64 a9.Term,
    .bool x7.Leads,v51,.int .i64 x7.Commit,v55]) rfl hv47 rfl hx8 hS50 hW rfl rfl (nle rfl) rfl (fun c59 h42 hv60 hS43=>?_)
  simp only [qa,q4c,qf,qe,qg,wb,qb,zv,qo,o7,o8,o9,qv,zh,B0,reduceIte,
    a8]
  refine uh (n:=5) (us:=[.bool false]) (cs:=[.int .i64 a9.Term,.bool x7.Leads,v51,.int .i64 x7.Commit,v55]) (o:=1) (cs':=[.int .i64 a9.Term,.bool false,
    v51,.int .i64 x7.Commit,v55]) rfl hv60 rfl hx8 hS43 hW rfl rfl (nle rfl) rfl (fun c63 h61 hv64 hS62=>?_)
  simp only [qa,q8j,qe,qg,zf0,wb,qb,zv,qo,o7,o8,o9,qv,ql,B0,reduceIte,
    a8]
  refine qd (v:=d6) ((ja (a0g _ _ _ (t5 hS62))).trans rfl) ?_
  obtain ⟨l65,hx66,hF67⟩:=qk hX35
  simp only [zq,qb,SlG.plen hv64,qmm,B0,reduceIte,a8]
  refine qia (f:=cI) (z:=(0:Int)) hS62 hx66 rfl (fun v68 c69 h70 hv71 hS72=>?_)
  simp only [wb,qb,zv,qo,o7,o8,o9,qv,zh,B0,reduceIte,a8]
  refine uh (n:=5) (us:=[v68]) (cs:=[.int .i64 a9.Term,.bool false,v51,.int .i64 x7.Commit,v55]) (o:=4) (cs':=[.int .i64 a9.Term,.bool false,v51,
    .int .i64 x7.Commit,v68]) (jp (a01 hv71)) hv64 rfl hx8 (t6 hS72) hW rfl (qp (a01 hv71) zp) (nle rfl) rfl (fun c76 h74 hv77 hS75=>?_)
  simp only [qa,qm,B0,reduceIte,a8]
  obtain ⟨c78,hv79,hS80⟩:=a3e (e':=(Peer.mk a9.Term false x7.Log x7.Commit l65)) (c:=c76) (os:=c52++(c69)) hv77 rfl hx8 zt (Peer.RI (x :=
    (Peer.mk a9.Term false x7.Log x7.Commit l65)) hv53 hv71) (a1f (c1:=c52) (c2:=c69) (s9 (s9 (t6 hS75))))
  have hx81:=kt (x':=(Peer.mk a9.Term false x7.Log x7.Commit l65)) hx8
  have hv82:=a1e hv79
  have e83:=qj hF67
  subst e83
  exact hN38 _ _ ⟨c78,zf0,rfl,rfl,hv82,(t5 (t5 (t6 (s9 (a0k (t6 hS80))))))⟩
 ·rw [iteF hc41] at hX35
  simp only [zd,qm,B0,reduceIte,a8]
  have e84:=qj hX35
  subst e84
  exact hN38 _ _ ⟨c27,zf0,rfl,rfl,hv30,(t5 (t5 (t6 (s9 hS29))))⟩
 rintro fr85 h86 ⟨c32,f88,f89,f90,hv33,hS87⟩
 unfold qaa at hk36
 simp only [qsk,qf,jg,f89,zl,qi,o7,o8,o9,qn,zj,B0,reduceIte,a8]
 refine qq (v := .int .i64 a9.Term) rfl ?_
 obtain ⟨x91,hx92,hF93⟩:=qk hk36
 obtain ⟨c94,cs95,os96,hv97,hR98,hS99⟩:=a2d (a2f hv33 hb11 Peer.RO.len) hx92 zt Peer.RO.len (s9 hS87)
 obtain ⟨v101,c102,v105,c106,hv103,hv107,rfl,rfl⟩:=hR98
 have hS100:=a2j hS99
 simp only [f90,zz,qi,js,zv,zl,o7,o8,o9,qv,zj,B0,reduceIte,a8]
 refine qq (v := .int .i64 x91.Term) ((a15 (o:=0) hv97 rfl hx92 hS100 (nle rfl)).trans rfl) ?_
 simp only [j5,qi,wz,za,q8,B0,reduceIte,a8]
 refine q9 (t:=(decide (a9.Term≠x91.Term))) (fun hc109=>?_) (fun hc109=>?_)
 ·rw [iteT hc109] at hF93
  simp only [zc,B0,reduceIte,a8]
  obtain ⟨c110,hv111,hS112⟩:=a1h (c:=c94) (os:=c102++(c106)) hv97 rfl hx92 zt (Peer.RI (x:=x91) hv103 hv107) (a1f (c1:=c102) (c2:=c106) (s9
    (s9 (s9 hS100))))
  have hv113:=a1e hv111
  have he:=qj hF93
  subst he
  simp only [qk8,B0,reduceIte,a8]
  exact ⟨c110,d7,d9,g8,by first | trivial | rfl,hv113,e8,i7,(t5 (s9 (t5 (s9 hS112))))⟩
 rw [iteF hc109] at hF93
 simp only [zd,qt5,qf,qe,f89,qo,qb,o7,o8,o9,qn,ql,B0,reduceIte,a8]
 refine qd (v := .bool a9.Reply) rfl ?_
 simp only [qa,q8s,q8,B0,reduceIte,a8]
 refine q9 (t:=a9.Reply) (fun hc114=>?_) (fun hc114=>?_)
 ·rw [iteT hc114] at hF93
  simp only [q9z,qf,qe,f90,qg,wb,qb,zv,qo,o7,o8,o9,qv,ql,B0,reduceIte,a8]
  refine qd (v := .bool x91.Leads) ((a15 (o:=1) hv97 rfl hx92 hS100 (nle rfl)).trans rfl) ?_
  simp only [qa,q4g,q8,B0,reduceIte,a8]
  obtain ⟨c115,hv116,hS117⟩:=a1h (c:=c94) (os:=c102++(c106)) hv97 rfl hx92 zt (Peer.RI (x:=x91) hv103 hv107) (a1f (c1:=c102) (c2:=c106) (s9
    (s9 (s9 hS100))))
  have hv118:=a1e hv116
  obtain ⟨s119,hX123,hk124⟩:=qk hF93
  refine wj (t:=x91.Leads) (fun fr' h'=>∃ c120,SlN Peer.R 5 43 d6 s119 c120∧Sep h' lo ([Blk1 pb0 [d6,
    d7] 29]++(g8++(c120++(d9++(S0)))))) (fun Q125 hN126 hR127 hE128=>⟨fun hc129=>?_,fun hc129=>?_⟩) ?_
  ·rw [iteT hc129] at hX123
   obtain ⟨c130,cs131,os132,hv133,hR134,hS135⟩:=a2d (a2f hv118 hb11 Peer.RO.len) hx92 zt Peer.RO.len hS117
   obtain ⟨v137,c138,v141,c142,hv139,hv143,rfl,rfl⟩:=hR134
   have hS136:=a2j hS135
   simp only [q2u,jg,f90,zz,qi,js,zv,zl,o7,o8,o9,qv,zj,B0,reduceIte,a8]
   refine qq (v:=v141) ((a15 (o:=4) hv133 rfl hx92 hS136 (nle rfl)).trans rfl) ?_
   simp only [f89,zl,qi,o7,o8,o9,qn,zj,B0,reduceIte,a8]
   refine qq (v := .int .i64 a9.From) rfl ?_
   simp only [f90,zz,qi,js,zv,zl,o7,o8,o9,qv,zj,B0,reduceIte,a8]
   refine qq (v:=v141) ((a15 (o:=4) hv133 rfl hx92 hS136 (nle rfl)).trans rfl) ?_
   simp only [f89,zl,qi,o7,o8,o9,qn,zj,B0,reduceIte,a8]
   refine qq (v := .int .i64 a9.From) rfl ?_
   obtain ⟨x145,hx146,hF147⟩:=qk hX123
   simp only [yh,B0,reduceIte,a8]
   obtain ⟨b148,hb149⟩:=a19 hv143 (j7 hx146)
   refine qq (a27 hv143 hb149 hx146) ?_
   simp only [zj,B0,reduceIte,a8]
   refine qq (v := .int .i64 x145) ((SlF.ld (o:=0) hv143 (s9 hS136) hb149 hx146 (fun _=>rfl) (nle rfl)).trans rfl) ?_
   simp only [f89,zl,qi,o7,o8,o9,qn,zj,B0,reduceIte,a8]
   refine qq (v := .int .i64 a9.Match) rfl ?_
   simp only [f90,zz,qi,js,zv,zl,o7,o8,o9,qv,zj,B0,reduceIte,a8]
   refine qq (v:=v137) ((a15 (o:=2) hv133 rfl hx92 hS136 (nle rfl)).trans rfl) ?_
   simp only [wm,qi,a1p hv139,qmg,qlr,qog,yh,B0,reduceIte,a8]
   refine qq (a27 hv143 hb149 hx146) ?_
   simp only [xx,B0,reduceIte,a8]
   refine qe6 (f:=cI) (x':=(mxI x145 (mnI a9.Match (p9 x91.Log:Int)))) (o:=0) hv143 (s9 hS136) hW hb149 hx146 (fun _=>rfl) rfl rfl (nle rfl) rfl
     (fun c152 h150 hv153 hS151=>?_)
   have hx154:=kt (x':=(mxI x145 (mnI a9.Match (p9 x91.Log:Int)))) hx146
   simp only [za,qm,B0,reduceIte,a8]
   obtain ⟨c155,hv156,hS157⟩:=a3e (e':=(Peer.mk x91.Term x91.Leads x91.Log x91.Commit (a1b x91.Match a9.From.toNat (mxI x145 (mnI a9.Match
     (p9 x91.Log:Int)))))) (c:=c130) (os:=c138++(c152)) hv133 rfl hx92 zt (Peer.RI (x:=(Peer.mk x91.Term x91.Leads x91.Log x91.Commit
     (a1b x91.Match a9.From.toNat (mxI x145 (mnI a9.Match (p9 x91.Log:Int)))))) hv139 hv153) (a1f (c1:=c138) (c2:=c152) (s9 (s9 hS151)))
   have hx158:=kt (x':=(Peer.mk x91.Term x91.Leads x91.Log x91.Commit (a1b x91.Match a9.From.toNat (mxI x145 (mnI a9.Match (p9 x91.Log:Int)))))) hx92
   have hv159:=a1e hv156
   have e160:=qj hF147
   subst e160
   exact hN126 _ _ ⟨c155,hv159,(t5 (t5 (t6 (t5 hS157))))⟩
  ·rw [iteF hc129] at hX123
   simp only [zd,qm,B0,reduceIte,a8]
   have e161:=qj hX123
   subst e161
   exact hN126 _ _ ⟨c115,hv118,(t5 (t5 (t6 (t5 hS117))))⟩
  rintro fr162 h163 ⟨c120,hv121,hS164⟩
  unfold qb1 at hk124
  simp only [zc,B0,reduceIte,a8]
  have he:=qj hk124
  subst he
  simp only [qk8,B0,reduceIte,a8]
  exact ⟨c120,d7,d9,g8,by first | trivial | rfl,hv121,e8,i7,(t5 (t5 (t5 (t6 hS164))))⟩
 rw [iteF hc114] at hF93
 simp only [zd,q0g,qf,jg,f89,zl,qi,o7,o8,o9,qn,zj,B0,reduceIte,a8]
 refine qq (v := .int .i64 a9.Prev) rfl ?_
 simp only [f90,zz,qi,js,zv,zl,o7,o8,o9,qv,zj,B0,reduceIte,a8]
 refine qq (v:=v101) ((a15 (o:=2) hv97 rfl hx92 hS100 (nle rfl)).trans rfl) ?_
 simp only [wm,qi,a1p hv103,j5,ww,zz,B0,reduceIte,a8]
 obtain ⟨v169,hx170,hF171⟩:=qk hF93
 refine qac 19 (fun fr' h'=>Sep h' lo ([Blk1 pb0 [d6,
   d7] 29]++(g8++(c94++(d9++(c102++(c106++(S0)))))))∧fr' 104 = .bool v169∧fr' 0 = .ptr pb0 0∧fr' 3 = .ref [.bool a9.Reply,.int .i64 a9.From,
   .int .i64 a9.To,.int .i64 a9.Term,.int .i64 a9.Prev,.int .i64 a9.PTerm,f0,.int .i64 a9.Commit,
   .int .i64 a9.Match] 0∧fr' 4 = .ptr b10 (a9.To.toNat*5)) rfl (fun Q166 hN167=>?_) ?_
 ·simp only [s5,t4]
  simp only [qz (g:=85),B0,reduceIte,a8]
  refine ky (t:=(decide ((p9 x91.Log:Int)<a9.Prev))) (fun hg168=>?_) (fun hg168=>?_)
  ·rw [iteT hg168] at hx170
   simp only [hg168,qz (g:=85),xw,qz (g:=89),ql8,ki,qi,zo,za,qm,B0,reduceIte,a8]
   have e172:=qj hx170
   exact hN167 _ _ ⟨(t8 (t8 (t5 (t8 (s9 (s9 hS100)))))),by rw [←e172]; simp only [B0,reduceIte,a8],f88,f89,f90⟩
  ·rw [iteF hg168] at hx170
   simp only [hg168,qz (g:=85),jb,f89,zl,qi,o7,o8,o9,qn,zj,B0,reduceIte,a8]
   refine qq (v := .int .i64 a9.Prev) rfl ?_
   simp only [hg168,qz (g:=85),jb,j5,qi,ww,zz,B0,reduceIte,a8]
   obtain ⟨v176,hx177,hF178⟩:=qk hx170
   refine qac 14 (fun fr' h'=>Sep h' lo ([Blk1 pb0 [d6,
     d7] 29]++(g8++(c94++(d9++(c102++(c106++(S0)))))))∧fr' 103 = .bool v176∧fr' 0 = .ptr pb0 0∧fr' 3 = .ref [.bool a9.Reply,.int .i64 a9.From,
     .int .i64 a9.To,.int .i64 a9.Term,.int .i64 a9.Prev,.int .i64 a9.PTerm,f0,.int .i64 a9.Commit,
     .int .i64 a9.Match] 0∧fr' 4 = .ptr b10 (a9.To.toNat*5)∧fr' 85 = .bool (decide ((p9 x91.Log:Int)<a9.Prev))) rfl (fun Q173 hN174=>?_) ?_
   ·simp only [s5,t4]
    simp only [qz (g:=89),B0,reduceIte,a8]
    refine ky (t:=(decide ((0:Int)<a9.Prev))) (fun hg175=>?_) (fun hg175=>?_)
    ·rw [iteT hg175] at hx177
     simp only [hg175,qz (g:=89),jd,f90,zz,qi,js,zv,zl,o7,o8,o9,qv,zj,B0,
       reduceIte,a8]
     refine qq (v:=v101) ((a15 (o:=2) hv97 rfl hx92 hS100 (nle rfl)).trans rfl) ?_
     simp only [hg175,qz (g:=89),jd,f89,zl,qi,o7,o8,o9,qn,zj,B0,reduceIte,a8]
     refine qq (v := .int .i64 a9.Prev) rfl ?_
     obtain ⟨x179,hx180,hF181⟩:=qk hx177
     simp only [hg175,qz (g:=89),jd,j5,qi,qbp,yh,B0,reduceIte,a8]
     obtain ⟨b182,hb183⟩:=a19 hv103 (j7 hx180)
     refine qq (a27 hv103 hb183 hx180) ?_
     simp only [hg175,qz (g:=89),jd,zl,qi,o7,o8,o9,qv,zj,B0,reduceIte,a8]
     refine qq (v := .int .i64 x179.Term) ((SlF.ld (o:=0) hv103 (t6 hS100) hb183 hx180 (fun _=>rfl) (nle rfl)).trans rfl) ?_
     simp only [hg175,qz (g:=89),jd,f89,zl,qi,o7,o8,o9,qn,zj,B0,reduceIte,a8]
     refine qq (v := .int .i64 a9.PTerm) rfl ?_
     simp only [hg175,qz (g:=89),jd,j5,qi,wz,hg168,qz (g:=85),jb,ki,zo,za,qm,B0,
       reduceIte,a8]
     have e184:=qj hF181
     exact hN174 _ _ ⟨(t8 (t8 (t5 (t8 (s9 (s9 hS100)))))),by rw [←e184]; simp only [B0,reduceIte,a8],f88,f89,f90,
       by simp only [hg168,B0,reduceIte,a8]⟩
    ·rw [iteF hg175] at hx177
     simp only [hg175,qz (g:=89),qaj,hg168,qz (g:=85),jb,ki,qi,zn,za,qm,B0,reduceIte,
       a8]
     have e185:=qj hx177
     exact hN174 _ _ ⟨(t8 (t8 (t5 (t8 (s9 (s9 hS100)))))),by rw [←e185]; simp only [B0,reduceIte,a8],f88,f89,f90,
       by simp only [hg168,B0,reduceIte,a8]⟩
   rintro fr186 h192 ⟨hS193,f187,f188,f189,f190,f191⟩
   simp only [s6,t3]
   simp only [f191,hg168,ki,qi,zn,f187,za,qm,B0,reduceIte,a8]
   have e194:=qj hF178
   exact hN167 _ _ ⟨(t8 (t8 (t8 (t8 (t8 (t8 hS193)))))),by rw [←e194]; simp only [B0,reduceIte,a8],f188,f189,f190⟩
 rintro fr195 h200 ⟨hS201,f196,f197,f198,f199⟩
 simp only [s6,t3]
 simp only [za,f196,q8,B0,reduceIte,a8]
 refine q9 (t:=v169) (fun hc202=>?_) (fun hc202=>?_)
 ·rw [iteT hc202] at hF171
  simp only [zc,B0,reduceIte,a8]
  obtain ⟨c203,hv204,hS205⟩:=a1h (c:=c94) (os:=c102++(c106)) hv97 rfl hx92 zt (Peer.RI (x:=x91) hv103 hv107) (a1f (c1:=c102) (c2:=c106) (a0j
    (t8 (t8 hS201))))
  have hv206:=a1e hv204
  have he:=qj hF171
  subst he
  simp only [qk8,B0,reduceIte,a8]
  exact ⟨c203,d7,d9,g8,by first | trivial | rfl,hv206,e8,i7,(t5 (s9 (t5 (s9 hS205))))⟩
 rw [iteF hc202] at hF171
 simp only [zd,q0h,qf,qe,f198,qo,qb,o7,o8,o9,qn,ql,B0,reduceIte,a8]
 refine qd (v := .int .i64 a9.Prev) rfl ?_
 simp only [qg,qa,qza,qf,qe,f198,qo,qb,o7,o8,o9,qn,ql,B0,reduceIte,a8]
 refine qd (v:=f0) rfl ?_
 simp only [zq,qb,a1p i7,qg,qa,B0,reduceIte,a8]
 obtain ⟨c207,hv208,hS209⟩:=a1h (c:=c94) (os:=c102++(c106)) hv97 rfl hx92 zt (Peer.RI (x:=x91) hv103 hv107) (a1f (c1:=c102) (c2:=c106) (a0j
   (t8 (t8 hS201))))
 have hv210:=a1e hv208
 obtain ⟨oc221,hX223,hk224⟩:=kd hF171
 simp only [qv1]
 refine qas (σ:=Int × (List Peer)) (fun i219 s489=>qbx a9 i219 s489.1 s489.2) (fun s fr' h'=>∃ c217,fr' 0 = .ptr pb0 0∧fr' 3 = .ref [.bool a9.Reply,
   .int .i64 a9.From,.int .i64 a9.To,.int .i64 a9.Term,.int .i64 a9.Prev,.int .i64 a9.PTerm,f0,.int .i64 a9.Commit,
   .int .i64 a9.Match] 0∧fr' 4 = .ptr b10 (a9.To.toNat*5)∧fr' 5 = .int .i64 s.1∧fr' 108=f0∧SlN Peer.R 5 43 d6 s.2 c217∧Sep h' lo ([Blk1 pb0 [d6,
   d7] 29]++(g8++(c217++(d9++(S0)))))) hX223 ⟨c207,f197,f198,f199,rfl,rfl,hv210,(t5 (t5 (t6 (t5 hS209))))⟩ (by simp only [B0,reduceIte,
   a8]) (by simp only [B0,reduceIte,a8]) (fun _ _ _ h=>h) rfl rfl (fun _ _ _ _ h=>h) (fun _ _ _ _ h=>h) (fun _ _ _ _ h=>h) (by decide) ?_ ?_
 ·rintro i219 ⟨s215,s216⟩ fr233 h234 hx241 ⟨c217,f236,f237,f238,f239,f240,hv218,hS235⟩ f242 f243 oc222 hF225 hr226 Q227 hN228 hB232 hK229 hR230 hE231
  dsimp only at *
  unfold qbx at hF225
  obtain ⟨x244,hx245,hF246⟩:=qk hF225
  simp only [qy5,qf,qe,f240,f242,jj,B0,reduceIte,a8]
  obtain ⟨b247,hb248⟩:=a19 i7 (j7 hx245)
  refine qd (a27 i7 hb248 hx245) ?_
  simp only [ql,B0,reduceIte,a8]
  refine qd (v := .agg [.int .i64 x244.Term,.int .i64 x244.Value]) ((SlF.lds (o:=0) i7 (t6 hS235) hb248 hx245 (fun _=>rfl) (nle rfl)).trans rfl) ?_
  simp only [ji,B0,reduceIte,a8]
  refine z6 hS235 (fun b249 h250 hS251=>?_)
  simp only [zh,B0,reduceIte,a8]
  refine qy (us:=[.int .i64 x244.Term,.int .i64 x244.Value]) rfl (cs':=[.int .i64 x244.Term,
    .int .i64 x244.Value]) hS251 hW rfl rfl (nle rfl) rfl (fun h253 hS254=>?_)
  simp only [qa,B0,reduceIte,a8]
  refine jc hS254 hW (by simp only [B0,reduceIte,a8]) (fun h255 hS256=>?_)
  simp only [z5,qto,qf,jg,f237,zl,qi,o7,o8,o9,qn,zj,B0,reduceIte,a8]
  refine qq (v := .int .i64 a9.Prev) rfl ?_
  obtain ⟨x257,hx258,hF259⟩:=qk hF246
  obtain ⟨c260,cs261,os262,hv263,hR264,hS265⟩:=a2d (a2f hv218 hb11 Peer.RO.len) hx258 zt Peer.RO.len (s9 hS256)
  obtain ⟨v267,c268,v271,c272,hv269,hv273,rfl,rfl⟩:=hR264
  have hS266:=a2j hS265
  simp only [f238,zz,qi,js,zv,zl,o7,o8,o9,qv,zj,B0,reduceIte,a8]
  refine qq (v:=v267) ((a15 (o:=2) hv263 rfl hx258 hS266 (nle rfl)).trans rfl) ?_
  simp only [wm,qi,a1p hv269,j5,qch,zz,B0,reduceIte,a8]
  obtain ⟨v278,hx279,hF280⟩:=qk hF259
  refine qac 13 (fun fr' h'=>Sep h' lo ([Blk1 pb0 [d6,
    d7] 29]++(g8++(c260++(d9++(c268++(c272++(S0)))))))∧fr' 135 = .bool v278∧fr' 0 = .ptr pb0 0∧fr' 3 = .ref [.bool a9.Reply,.int .i64 a9.From,
    .int .i64 a9.To,.int .i64 a9.Term,.int .i64 a9.Prev,.int .i64 a9.PTerm,f0,.int .i64 a9.Commit,
    .int .i64 a9.Match] 0∧fr' 4 = .ptr b10 (a9.To.toNat*5)∧fr' 5 = .int .i64 s215∧fr' 7 = .ref [.int .i64 x244.Term,
    .int .i64 x244.Value] 0∧fr' 108=f0∧fr' 109 = .int .i64 (p9 a9.Entry:Int)∧fr' 110 = .int .i64 (i219:Int)) rfl (fun Q275 hN276=>?_) ?_
  ·simp only [s5,t4]
   simp only [qz (g:=122),B0,reduceIte,a8]
   refine ky (t:=(decide (a9.Prev<(p9 x257.Log:Int)))) (fun hg277=>?_) (fun hg277=>?_)
   ·rw [iteT hg277] at hx279
    simp only [hg277,qz (g:=122),jd,f238,zz,qi,js,zv,zl,o7,o8,o9,qv,zj,B0,
      reduceIte,a8]
    refine qq (v:=v267) ((a15 (o:=2) hv263 rfl hx258 hS266 (nle rfl)).trans rfl) ?_
    simp only [hg277,qz (g:=122),jd,f237,zl,qi,o7,o8,o9,qn,zj,B0,reduceIte,a8]
    refine qq (v := .int .i64 a9.Prev) rfl ?_
    obtain ⟨x281,hx282,hF283⟩:=qk hx279
    simp only [hg277,qz (g:=122),jd,yh,B0,reduceIte,a8]
    obtain ⟨b284,hb285⟩:=a19 hv269 (j7 hx282)
    refine qq (a27 hv269 hb285 hx282) ?_
    simp only [hg277,qz (g:=122),jd,zl,qi,o7,o8,o9,qv,zj,B0,reduceIte,a8]
    refine qq (v := .int .i64 x281.Term) ((SlF.ld (o:=0) hv269 (t6 hS266) hb285 hx282 (fun _=>rfl) (nle rfl)).trans rfl) ?_
    simp only [hg277,qz (g:=122),jd,zl,qi,o7,o8,o9,qn,zj,B0,reduceIte,a8]
    refine qq (v := .int .i64 x244.Term) rfl ?_
    simp only [hg277,qz (g:=122),jd,j5,qi,wz,ki,zo,za,qm,B0,reduceIte,a8]
    have e286:=qj hF283
    exact hN276 _ _ ⟨(t8 (t8 (t5 (t8 (s9 (s9 hS266)))))),by rw [←e286]; simp only [B0,reduceIte,a8],f236,f237,f238,f239,rfl,f240,
      f243,f242⟩
   ·rw [iteF hg277] at hx279
    simp only [hg277,qz (g:=122),qaj,ki,qi,zn,za,qm,B0,reduceIte,a8]
    have e287:=qj hx279
    exact hN276 _ _ ⟨(t8 (t8 (t5 (t8 (s9 (s9 hS266)))))),by rw [←e287]; simp only [B0,reduceIte,a8],f236,f237,f238,f239,rfl,f240,
      f243,f242⟩
  rintro fr288 h298 ⟨hS299,f289,f290,f291,f292,f293,f294,f295,f296,f297⟩
  simp only [s6,t3]
  simp only [za,qse,f289,q8,B0,reduceIte,a8]
  obtain ⟨c300,hv301,hS302⟩:=a1h (c:=c260) (os:=c268++(c272)) hv263 rfl hx258 zt (Peer.RI (x:=x257) hv269 hv273) (a1f (c1:=c268) (c2:=c272) (a0j
    (t8 (t8 hS299))))
  have hv303:=a1e hv301
  obtain ⟨s304,hX308,hk309⟩:=qk hF280
  refine wj (t:=v278) (fun fr' h'=>∃ c305,fr' 0 = .ptr pb0 0∧fr' 3 = .ref [.bool a9.Reply,.int .i64 a9.From,.int .i64 a9.To,.int .i64 a9.Term,
    .int .i64 a9.Prev,.int .i64 a9.PTerm,f0,.int .i64 a9.Commit,
    .int .i64 a9.Match] 0∧fr' 4 = .ptr b10 (a9.To.toNat*5)∧fr' 5 = .int .i64 s215∧fr' 7 = .ref [.int .i64 x244.Term,
    .int .i64 x244.Value] 0∧fr' 108=f0∧fr' 109 = .int .i64 (p9 a9.Entry:Int)∧fr' 110 = .int .i64
    (i219:Int)∧SlN Peer.R 5 43 d6 s304 c305∧Sep h' lo ([Blk1 pb0 [d6,
    d7] 29]++(g8++(c305++(d9++(S0)))))) (fun Q310 hN311 hR312 hE313=>⟨fun hc314=>?_,fun hc314=>?_⟩) ?_
  ·rw [iteT hc314] at hX308
   obtain ⟨c315,cs316,os317,hv318,hR319,hS320⟩:=a2d (a2f hv303 hb11 Peer.RO.len) hx258 zt Peer.RO.len hS302
   obtain ⟨v322,c323,v326,c327,hv324,hv328,rfl,rfl⟩:=hR319
   have hS321:=a2j hS320
   simp only [q91,jg,f292,zz,qi,js,zv,zl,o7,o8,o9,qv,zj,B0,reduceIte,a8]
   refine qq (v:=v322) ((a15 (o:=2) hv318 rfl hx258 hS321 (nle rfl)).trans rfl) ?_
   simp only [f291,zl,qi,o7,o8,o9,qn,zj,B0,reduceIte,a8]
   refine qq (v := .int .i64 a9.Prev) rfl ?_
   obtain ⟨l330,hx331,hF332⟩:=qk hX308
   simp only [qgm,Option.map_some,Option.map_none,B0,reduceIte,a8]
   obtain ⟨v333,he334,hv335⟩:=SlF.trunc (f1:=qh) hv324 hx331 (fun _=>rfl) (t6 hS321)
   refine qq he334 ?_
   simp only [js,qi,zv,zl,o7,o8,o9,qv,xx,B0,reduceIte,a8]
   refine qd3 (n:=5) (us:=[v333]) (cs:=[.int .i64 x257.Term,.bool x257.Leads,v322,.int .i64 x257.Commit,v326]) (o:=2) (cs':=[.int .i64 x257.Term,
     .bool x257.Leads,v333,.int .i64 x257.Commit,
     v326]) (jp (a01 hv335)) hv318 rfl hx258 hS321 hW rfl (qp (a01 hv335) zp) (nle rfl) rfl (fun c339 h337 hv340 hS338=>?_)
   simp only [za,qm,B0,reduceIte,a8]
   obtain ⟨c341,hv342,hS343⟩:=a3e (e':=(Peer.mk x257.Term x257.Leads l330 x257.Commit x257.Match)) (c:=c339) (os:=c323++(c327)) hv340 rfl hx258 zt (Peer.RI
     (x:=(Peer.mk x257.Term x257.Leads l330 x257.Commit x257.Match)) hv335 hv328) (a1f (c1:=c323) (c2:=c327) (s9 (s9 (s9 hS338))))
   have hx344:=kt (x':=(Peer.mk x257.Term x257.Leads l330 x257.Commit x257.Match)) hx258
   have hv345:=a1e hv342
   have e346:=qj hF332
   subst e346
   exact hN311 _ _ ⟨c341,f290,f291,f292,f293,f294,f295,f296,f297,hv345,(t5 (t5 (t6 (t5 hS343))))⟩
  ·rw [iteF hc314] at hX308
   simp only [zd,qm,B0,reduceIte,a8]
   have e347:=qj hX308
   subst e347
   exact hN311 _ _ ⟨c300,f290,f291,f292,f293,f294,f295,f296,f297,hv303,(t5 (t5 (t6 (t5 hS302))))⟩
  rintro fr348 h349 ⟨c305,f351,f352,f353,f354,f355,f356,f357,f358,hv306,hS350⟩
  unfold qaf at hk309
  simp only [qv4,qf,jg,f352,zl,qi,o7,o8,o9,qn,zj,B0,reduceIte,a8]
  refine qq (v := .int .i64 a9.Prev) rfl ?_
  obtain ⟨x359,hx360,hF361⟩:=qk hk309
  obtain ⟨c362,cs363,os364,hv365,hR366,hS367⟩:=a2d (a2f hv306 hb11 Peer.RO.len) hx360 zt Peer.RO.len (s9 hS350)
  obtain ⟨v369,c370,v373,c374,hv371,hv375,rfl,rfl⟩:=hR366
  have hS368:=a2j hS367
  simp only [f353,zz,qi,js,zv,zl,o7,o8,o9,qv,zj,B0,reduceIte,a8]
  refine qq (v:=v369) ((a15 (o:=2) hv365 rfl hx360 hS368 (nle rfl)).trans rfl) ?_
  simp only [wm,qi,a1p hv371,j5,ku,zz,B0,reduceIte,a8]
  refine qac 7 (fun fr' h'=>Sep h' lo ([Blk1 pb0 [d6,
    d7] 29]++(g8++(c362++(d9++(c370++(c374++(S0)))))))∧fr' 161 = .bool ((decide (a9.Prev=(p9 x359.Log:Int)))&&(decide
    ((p9 x359.Log:Int)<30)))∧fr' 0 = .ptr pb0 0∧fr' 3 = .ref [.bool a9.Reply,.int .i64 a9.From,.int .i64 a9.To,.int .i64 a9.Term,.int .i64 a9.Prev,
    .int .i64 a9.PTerm,f0,.int .i64 a9.Commit,
    .int .i64 a9.Match] 0∧fr' 4 = .ptr b10 (a9.To.toNat*5)∧fr' 5 = .int .i64 s215∧fr' 7 = .ref [.int .i64 x244.Term,
    .int .i64 x244.Value] 0∧fr' 108=f0∧fr' 109 = .int .i64 (p9 a9.Entry:Int)∧fr' 110 = .int .i64 (i219:Int)) rfl (fun Q377 hN378=>?_) ?_
  ·simp only [s5,t4]
   simp only [qz (g:=154),B0,reduceIte,a8]
   refine ky (t:=(decide (a9.Prev=(p9 x359.Log:Int)))) (fun hg379=>?_) (fun hg379=>?_)
   ·simp only [hg379,qz (g:=154),jd,f353,zz,qi,js,zv,zl,o7,o8,o9,qv,zj,B0,
     reduceIte,a8]
    refine qq (v:=v369) ((a15 (o:=2) hv365 rfl hx360 hS368 (nle rfl)).trans rfl) ?_
    simp only [hg379,qz (g:=154),jd,wm,qi,a1p hv371,j5,qch,ki,zo,za,qm,B0,reduceIte,
      a8]
    exact hN378 _ _ ⟨(t8 (t8 (t5 (t8 (s9 (s9 hS368)))))),by rw [qat hg379]; simp only [B0,reduceIte,a8],f351,f352,f353,f354,f355,
      f356,f357,f358⟩
   ·simp only [hg379,qz (g:=154),qaj,ki,qi,zn,za,qm,B0,reduceIte,a8]
    exact hN378 _ _ ⟨(t8 (t8 (t5 (t8 (s9 (s9 hS368)))))),by rw [qao hg379]; simp only [B0,reduceIte,a8],f351,f352,f353,f354,f355,
      f356,f357,f358⟩
  rintro fr380 h390 ⟨hS391,f381,f382,f383,f384,f385,f386,f387,f388,f389⟩
  simp only [s6,t3]
  simp only [za,qzp,f381,q8,B0,reduceIte,a8]
  obtain ⟨c392,hv393,hS394⟩:=a1h (c:=c362) (os:=c370++(c374)) hv365 rfl hx360 zt (Peer.RI (x:=x359) hv371 hv375) (a1f (c1:=c370) (c2:=c374) (a0j
    (t8 (t8 hS391))))
  have hv395:=a1e hv393
  obtain ⟨s396,hX400,hk401⟩:=qk hF361
  refine wj (t:=((decide (a9.Prev=(p9 x359.Log:Int)))&&(decide ((p9 x359.Log:Int)<30)))) (fun fr' h'=>∃ c397,
    fr' 0 = .ptr pb0 0∧fr' 3 = .ref [.bool a9.Reply,.int .i64 a9.From,.int .i64 a9.To,.int .i64 a9.Term,.int .i64 a9.Prev,.int .i64 a9.PTerm,f0,
    .int .i64 a9.Commit,.int .i64 a9.Match] 0∧fr' 4 = .ptr b10 (a9.To.toNat*5)∧fr' 5 = .int .i64 s215∧fr' 108=f0∧fr' 109 = .int .i64
    (p9 a9.Entry:Int)∧fr' 110 = .int .i64 (i219:Int)∧SlN Peer.R 5 43 d6 s396 c397∧Sep h' lo ([Blk1 pb0 [d6,
    d7] 29]++(g8++(c397++(d9++(S0)))))) (fun Q402 hN403 hR404 hE405=>⟨fun hc406=>?_,fun hc406=>?_⟩) ?_
  ·rw [iteT hc406] at hX400
   obtain ⟨c407,cs408,os409,hv410,hR411,hS412⟩:=a2d (a2f hv395 hb11 Peer.RO.len) hx360 zt Peer.RO.len hS394
   obtain ⟨v414,c415,v418,c419,hv416,hv420,rfl,rfl⟩:=hR411
   have hS413:=a2j hS412
   simp only [qud,jg,f384,ql4,qi,zz,js,zv,zl,o7,o8,o9,qv,zj,B0,reduceIte,a8]
   refine qq (v:=v414) ((a15 (o:=2) hv410 rfl hx360 hS413 (nle rfl)).trans rfl) ?_
   simp only [f386,zj,B0,reduceIte,a8]
   refine qq (v := .agg [.int .i64 x244.Term,.int .i64 x244.Value]) rfl ?_
   simp only [qa6,evp,B0,reduceIte,a8]
   refine qg0 (n:=2) (f:=qh) [x244] hS413 rfl rfl (fun v422 c423 h424 hv425 hS426=>?_)
   simp only [qgp,B0,reduceIte,a8]
   obtain ⟨l428,hx429,hF430⟩:=qk hX400
   refine qjm (f:=qh) hv416 (s9 hS426) hW (fun _=>rfl) (fun _=>rfl) (SlF.first hv425 hS426 (fun _=>rfl)) hx429 (fun v431 c432 h433 hv434 hS435=>?_)
   simp only [js,qi,zv,zl,o7,o8,o9,qv,xx,B0,reduceIte,a8]
   refine qd3 (n:=5) (us:=[v431]) (cs:=[.int .i64 x359.Term,.bool x359.Leads,v414,.int .i64 x359.Commit,v418]) (o:=2) (cs':=[.int .i64 x359.Term,
     .bool x359.Leads,v431,.int .i64 x359.Commit,
     v418]) (jp (a01 hv434)) hv410 rfl hx360 (s9 hS435) hW rfl (qp (a01 hv434) zp) (nle rfl) rfl (fun c439 h437 hv440 hS438=>?_)
   simp only [za,qm,B0,reduceIte,a8]
   obtain ⟨c441,hv442,hS443⟩:=a3e (e':=(Peer.mk x359.Term x359.Leads l428 x359.Commit x359.Match)) (c:=c439) (os:=c432++(c419)) hv440 rfl hx360 zt (Peer.RI
     (x:=(Peer.mk x359.Term x359.Leads l428 x359.Commit x359.Match)) hv434 hv420) (a1f (c1:=c432) (c2:=c419) (s9 (s9 (t5 hS438))))
   have hx444:=kt (x':=(Peer.mk x359.Term x359.Leads l428 x359.Commit x359.Match)) hx360
   have hv445:=a1e hv442
   have e446:=qj hF430
   subst e446
   exact hN403 _ _ ⟨c441,f382,f383,f384,f385,f387,f388,f389,hv445,(t5 (t5 (t6 (t5 (a0k (t6 hS443))))))⟩
  ·rw [iteF hc406] at hX400
   simp only [zd,qm,B0,reduceIte,a8]
   have e447:=qj hX400
   subst e447
   exact hN403 _ _ ⟨c392,f382,f383,f384,f385,f387,f388,f389,hv395,(t5 (t5 (t6 (t5 hS394))))⟩
  rintro fr448 h449 ⟨c397,f451,f452,f453,f454,f455,f456,f457,hv398,hS450⟩
  unfold qb5 at hk401
  simp only [qv5,qf,jg,f452,zl,qi,o7,o8,o9,qn,zj,B0,reduceIte,a8]
  refine qq (v := .int .i64 a9.Prev) rfl ?_
  obtain ⟨x458,hx459,hF460⟩:=qk hk401
  obtain ⟨c461,cs462,os463,hv464,hR465,hS466⟩:=a2d (a2f hv398 hb11 Peer.RO.len) hx459 zt Peer.RO.len (s9 hS450)
  obtain ⟨v468,c469,v472,c473,hv470,hv474,rfl,rfl⟩:=hR465
  have hS467:=a2j hS466
  simp only [f453,zz,qi,js,zv,zl,o7,o8,o9,qv,zj,B0,reduceIte,a8]
  refine qq (v:=v468) ((a15 (o:=2) hv464 rfl hx459 hS467 (nle rfl)).trans rfl) ?_
  simp only [wm,qi,a1p hv470,j5,qch,za,qw9,q8,B0,reduceIte,a8]
  refine q9 (t:=(decide (a9.Prev<(p9 x458.Log:Int)))) (fun hc476=>?_) (fun hc476=>?_)
  ·rw [iteT hc476] at hF460
   simp only [qe,f454,qg,qx,qb,ur,qa,qm,B0,reduceIte,a8]
   obtain ⟨c477,hv478,hS479⟩:=a1h (c:=c461) (os:=c469++(c473)) hv464 rfl hx459 zt (Peer.RI (x:=x458) hv470 hv474) (a1f (c1:=c469) (c2:=c473)
     (s9 (s9 (s9 hS467))))
   have hv480:=a1e hv478
   have e481:=qj hF460
   exact hN228 _ _ _ e481.symm ⟨c477,f451,f452,f453,rfl,f455,hv480,(t5 (t5 (t6 (t5 hS479))))⟩ (f457) (f456)
  rw [iteF hc476] at hF460
  simp only [zd,qm,B0,reduceIte,a8]
  obtain ⟨c482,hv483,hS484⟩:=a1h (c:=c461) (os:=c469++(c473)) hv464 rfl hx459 zt (Peer.RI (x:=x458) hv470 hv474) (a1f (c1:=c469) (c2:=c473) (s9
    (s9 (s9 hS467))))
  have hv485:=a1e hv483
  have e486:=qj hF460
  exact hN228 _ _ _ e486.symm ⟨c482,f451,f452,f453,f454,f455,hv485,(t5 (t5 (t6 (t5 hS484))))⟩ (f457) (f456)
 rintro ⟨s490,s491⟩ fr494 h495 rfl ⟨c492,f497,f498,f499,f500,f501,hv493,hS496⟩
 dsimp only [jnO] at hk224
 dsimp only at *
 unfold qbr at hk224
 obtain ⟨x502,hx503,hF504⟩:=qk hk224
 obtain ⟨c505,cs506,os507,hv508,hR509,hS510⟩:=a2d (a2f hv493 hb11 Peer.RO.len) hx503 zt Peer.RO.len (s9 hS496)
 obtain ⟨v512,c513,v516,c517,hv514,hv518,rfl,rfl⟩:=hR509
 have hS511:=a2j hS510
 simp only [qy9,qf,jg,f499,zz,qi,js,zv,zl,o7,o8,o9,qv,zj,B0,reduceIte,a8]
 refine qq (v := .int .i64 x502.Commit) ((a15 (o:=3) hv508 rfl hx503 hS511 (nle rfl)).trans rfl) ?_
 simp only [f498,zl,qi,o7,o8,o9,qn,zj,B0,reduceIte,a8]
 refine qq (v := .int .i64 a9.Commit) rfl ?_
 simp only [f500,zz,qi,qmg,qlr,qog,f499,js,zv,zl,o7,o8,o9,qv,zj,B0,reduceIte,a8]
 refine qq (v:=v512) ((a15 (o:=2) hv508 rfl hx503 hS511 (nle rfl)).trans rfl) ?_
 simp only [wm,qi,a1p hv514,qmg,qlr,js,zv,zl,o7,o8,o9,qv,xx,B0,reduceIte,a8]
 refine qd3 (n:=5) (us:=[.int .i64 (mnI (mxI x502.Commit (mnI a9.Commit s490)) (p9 x502.Log:Int))]) (cs:=[.int .i64 x502.Term,.bool x502.Leads,v512,
   .int .i64 x502.Commit,v516]) (o:=3) (cs':=[.int .i64 x502.Term,.bool x502.Leads,v512,
   .int .i64 (mnI (mxI x502.Commit (mnI a9.Commit s490)) (p9 x502.Log:Int)),
   v516]) rfl hv508 rfl hx503 hS511 hW rfl rfl (nle rfl) rfl (fun c522 h520 hv523 hS521=>?_)
 simp only [za,qul,qf,qe,f499,qg,wb,qb,zv,qo,o7,o8,o9,qv,ql,B0,reduceIte,
   a8]
 refine qd (v:=v516) ((a15 (o:=4) hv523 rfl hx503 hS521 (nle rfl)).trans rfl) ?_
 simp only [zq,qb,a1p hv518,qg,qa,B0,reduceIte,a8]
 obtain ⟨c524,hv525,hS526⟩:=a3e (e':=(Peer.mk x502.Term x502.Leads x502.Log (mnI (mxI x502.Commit (mnI a9.Commit s490)) (p9 x502.Log:Int)) x502.Match))
   (c:=c522) (os:=c513++(c517)) hv523 rfl hx503 zt (Peer.RI (x:=(Peer.mk x502.Term x502.Leads x502.Log (mnI (mxI x502.Commit (mnI a9.Commit s490))
   (p9 x502.Log:Int)) x502.Match)) hv514 hv518) (a1f (c1:=c513) (c2:=c517) (s9 (s9 (s9 hS521))))
 have hx527:=kt (x':=(Peer.mk x502.Term x502.Leads x502.Log (mnI (mxI x502.Commit (mnI a9.Commit s490)) (p9 x502.Log:Int)) x502.Match)) hx503
 have hv528:=a1e hv525
 obtain ⟨oc537,hX539,hk540⟩:=kd hF504
 simp only [qx6]
 refine qas (σ:=(List Peer)) (fun i535 s593=>qbz a9 i535 s593) (fun s fr' h'=>∃ c533,fr' 0 = .ptr pb0 0∧fr' 3 = .ref [.bool a9.Reply,
   .int .i64 a9.From,.int .i64 a9.To,.int .i64 a9.Term,.int .i64 a9.Prev,.int .i64 a9.PTerm,f0,.int .i64 a9.Commit,
   .int .i64 a9.Match] 0∧fr' 4 = .ptr b10 (a9.To.toNat*5)∧fr' 5 = .int .i64 s490∧SlN Peer.R 5 43 d6 s c533∧Sep h' lo ([Blk1 pb0 [d6,
   d7] 29]++(g8++(c533++(d9++(S0)))))) hX539 ⟨c524,f497,f498,f499,f500,hv528,(t5 (t5 (t6 (t5 hS526))))⟩ (by simp only [B0,reduceIte,
   a8]) (by simp only [B0,reduceIte,a8]) (fun _ _ _ h=>h) rfl rfl (fun _ _ _ _ h=>h) (fun _ _ _ _ h=>h) (fun _ _ _ _ h=>h) (by decide) ?_ ?_
 ·rintro i535 s532 fr549 h550 hx556 ⟨c533,f552,f553,f554,f555,hv534,hS551⟩ f557 f558 oc538 hF541 hr542 Q543 hN544 hB548 hK545 hR546 hE547
  unfold qbz at hF541
  obtain ⟨x559,hx560,hF561⟩:=qk hF541
  obtain ⟨c562,cs563,os564,hv565,hR566,hS567⟩:=a2d (a2f hv534 hb11 Peer.RO.len) hx560 zt Peer.RO.len (s9 hS551)
  obtain ⟨v569,c570,v573,c574,hv571,hv575,rfl,rfl⟩:=hR566
  have hS568:=a2j hS567
  simp only [qx5,qf,qe,f557,qg,qa,qt0,jg,f554,zz,qi,js,zv,zl,o7,o8,o9,
    qv,zj,B0,reduceIte,a8]
  refine qq (v:=v573) ((a15 (o:=4) hv565 rfl hx560 hS568 (nle rfl)).trans rfl) ?_
  simp only [zz,qi,f554,js,zv,zl,o7,o8,o9,qv,zj,B0,reduceIte,a8]
  refine qq (v:=v573) ((a15 (o:=4) hv565 rfl hx560 hS568 (nle rfl)).trans rfl) ?_
  obtain ⟨x577,hx578,hF579⟩:=qk hF561
  simp only [zz,qi,yh,B0,reduceIte,a8]
  obtain ⟨b580,hb581⟩:=a19 hv575 (j7 hx578)
  refine qq (a27 hv575 hb581 hx578) ?_
  simp only [zj,B0,reduceIte,a8]
  refine qq (v := .int .i64 x577) ((SlF.ld (o:=0) hv575 (s9 hS568) hb581 hx578 (fun _=>rfl) (nle rfl)).trans rfl) ?_
  simp only [f554,zz,qi,js,zv,zl,o7,o8,o9,qv,zj,B0,reduceIte,a8]
  refine qq (v:=v569) ((a15 (o:=2) hv565 rfl hx560 hS568 (nle rfl)).trans rfl) ?_
  simp only [wm,qi,a1p hv571,qmg,qlr,yh,B0,reduceIte,a8]
  refine qq (a27 hv575 hb581 hx578) ?_
  simp only [xx,B0,reduceIte,a8]
  refine qe6 (f:=cI) (x':=(mnI x577 (p9 x559.Log:Int))) (o:=0) hv575 (s9 hS568) hW hb581 hx578 (fun _=>rfl) rfl rfl (nle rfl) rfl
    (fun c584 h582 hv585 hS583=>?_)
  have hx586:=kt (x':=(mnI x577 (p9 x559.Log:Int))) hx578
  simp only [za,qm,B0,reduceIte,a8]
  obtain ⟨c587,hv588,hS589⟩:=a3e (e':=(Peer.mk x559.Term x559.Leads x559.Log x559.Commit (a1b x559.Match (i535:Int).toNat (mnI x577
    (p9 x559.Log:Int))))) (c:=c562) (os:=c570++(c584)) hv565 rfl hx560 zt (Peer.RI (x:=(Peer.mk x559.Term x559.Leads x559.Log x559.Commit
    (a1b x559.Match (i535:Int).toNat (mnI x577 (p9 x559.Log:Int))))) hv571 hv585) (a1f (c1:=c570) (c2:=c584) (s9 (s9 hS583)))
  have hx590:=kt (x':=(Peer.mk x559.Term x559.Leads x559.Log x559.Commit (a1b x559.Match (i535:Int).toNat (mnI x577 (p9 x559.Log:Int))))) hx560
  have hv591:=a1e hv588
  have e592:=qj hF579
  exact hN544 _ _ _ e592.symm ⟨c587,f552,f553,f554,f555,hv591,(t5 (t5 (t6 (t5 hS589))))⟩ (f557) (f558)
 rintro s594 fr597 h598 rfl ⟨c595,f600,f601,f602,f603,hv596,hS599⟩
 dsimp only [jnO] at hk540
 unfold qeh at hk540
 simp only [qsj,jg,f600,ql4,qi,zz,js,zv,zl,o7,o8,o9,qv,zj,B0,reduceIte,a8]
 refine qq (v:=d7) ((ja (a0g _ _ _ hS599)).trans rfl) ?_
 simp only [f601,zl,qi,o7,o8,o9,qn,zj,B0,reduceIte,a8]
 refine qq (v := .int .i64 a9.To) rfl ?_
 simp only [f601,zl,qi,o7,o8,o9,qn,zj,B0,reduceIte,a8]
 refine qq (v := .int .i64 a9.From) rfl ?_
 obtain ⟨x604,hx605,hF606⟩:=qk hk540
 obtain ⟨c607,cs608,os609,hv610,hR611,hS612⟩:=a2d (a2f hv596 hb11 Peer.RO.len) hx605 zt Peer.RO.len (s9 hS599)
 obtain ⟨v614,c615,v618,c619,hv616,hv620,rfl,rfl⟩:=hR611
 have hS613:=a2j hS612
 simp only [f602,zz,qi,js,zv,zl,o7,o8,o9,qv,zj,B0,reduceIte,a8]
 refine qq (v := .int .i64 x604.Term) ((a15 (o:=0) hv610 rfl hx605 hS613 (nle rfl)).trans rfl) ?_
 simp only [f603,zz,qi,qfw,evp,B0,reduceIte,a8]
 refine qq (v := .agg [.bool true,.int .i64 a9.To,.int .i64 a9.From,.int .i64 x604.Term,.int .i64 0,.int .i64 0,.nil,.int .i64 0,.int .i64 s490]) rfl ?_
 simp only [qa6,evp,B0,reduceIte,a8]
 refine qem (R:=Mail.R) (n:=9) (cs:=[.bool true,.int .i64 a9.To,.int .i64 a9.From,.int .i64 x604.Term,.int .i64 0,.int .i64 0,.nil,.int .i64 0,
   .int .i64 s490]) (os:=[]) (Sep.bi1 (c1:=[]) (S:=(c607++(c615++(c619++([Blk1 pb0 [d6,
   d7] 29]++(g8++(d9++(S0)))))))) (hS613:Sep _ lo (c607++(c615++(c619++([Blk1 pb0 [d6,
   d7] 29]++(g8++(d9++(S0))))))))) rfl (Mail.RI (x:=(Mail.mk true a9.To a9.From x604.Term 0 0 [] 0 s490)) SlF.nil) rfl (fun v622 c623 h624 hv625 hS626=>?_)
 simp only [qgp,B0,reduceIte,a8]
 obtain ⟨l628,hx629,hF630⟩:=qk hF606
 refine qg8 (R:=Mail.R) (c:=d9) e8 hv625 (Sep.m6 hS626) hW Mail.RO.len Mail.RO.one hx629 (fun v631 c632 h633 hv634 hS635=>?_)
 simp only [js,qi,zv,zl,o7,o8,o9,qv,xx,B0,reduceIte,a8]
 refine ua (us:=[v631]) (jp (a0n hv634)) (cs':=[d6,v631]) (a0j hS635) hW rfl (qp (a0n hv634) zp) (nle rfl) rfl (fun h637 hS638=>?_)
 simp only [za,qm,B0,reduceIte,a8]
 obtain ⟨c639,hv640,hS641⟩:=a1h (c:=c607) (os:=c615++(c619)) hv610 rfl hx605 zt (Peer.RI (x:=x604) hv616 hv620) (a1f (c1:=c615) (c2:=c619) (a0j
   (a0j (a0j hS638))))
 have hv642:=a1e hv640
 have he:=qj hF630
 subst he
 simp only [q08,B0,reduceIte,a8]
 exact ⟨c639,v631,c632,g8,by first | trivial | rfl,hv642,hv634,i7,(t5 (s9 (t5 (t5 hS641))))⟩
end Go.Proofs.Ytanblnjomhgphaa.X
