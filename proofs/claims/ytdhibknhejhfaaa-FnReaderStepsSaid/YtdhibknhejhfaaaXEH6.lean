/- The functions' code comes to what the plain functions say (6). -/
import Derived.Test.YtdhibknhejhfaaaXEH5
set_option linter.unusedVariables false
set_option linter.unusedSimpArgs false
set_option maxRecDepth 100000
namespace Go.Proofs.Ytdhibknhejhfaaa.X
open Go
open Nat (reduceEqDiff)
theorem qg7 {W:Nat→Bool}{h:Heap} (hW:∀ b,
  (geL h.length) b→W b=true) (k:Nat) (v_0:List Int) (v_1:List Int) (r:Bool) (hF:xu k v_0 v_1=some r) : Ret E W 6 [lst cU8 v_0,
  lst cU8 v_1] h (fun v h'=>cut h.length h' E.sz false 9 v=some (.bool r)):=by
 refine Ret.of (fn:=x6) rfl (Run.of ?_)
 unfold xu at hF
 have zf0:zb [lst cU8 v_0,lst cU8 v_1] 0=lst cU8 v_0:=rfl
 have zf1:zb [lst cU8 v_0,lst cU8 v_1] 1=lst cU8 v_1:=rfl
 generalize zb [lst cU8 v_0,lst cU8 v_1]=fr0 at zf0 zf1 ⊢
 have hS:Sep h (geL h.length) []:=Sep.nil h
 simp only [x6,qf,qe,qd,qa,qvw,zf0,zo,qb,zr,zf1,q9,u0,qe3,za,B0,reduceIte,reduceEqDiff]
 refine qz (t:=(decide ((1048576:Int)<(IntKind.wrap .i64 ((List.length v_0:Int)+(List.length v_1:Int)))))) (fun hc1=>?_) (fun hc1=>?_)
 ·rw [iteT hc1] at hF
  simp only [qf,qe,qd,qa,qx,B0,reduceIte,reduceEqDiff]
  have he:=qg hF
  subst he
  simp only [zi,B0,reduceIte,reduceEqDiff]
  exact rfl
 rw [iteF hc1] at hF
 obtain ⟨v2,hx3,hF4⟩:=qh hF
 simp only [zh,qxd,qf,qe,zf0,qd,qw,B0,reduceIte,reduceEqDiff]
 refine xz rfl hS (qi ze qy) (qgc (fun b hb=>decide_eq_true hb) k v_0 v2 hx3) ?_
 rintro _ h17 ⟨v5,c6,v9,c10,v13,c14,rfl,hv7,hv11,hv15,hS18⟩
 refine ⟨_,qbv (qk (qap (qk rfl (qk (SlN.free1 hv7) (qk (SlF.free1 hv11) (qk (SlF.free1 hv15) zl))))) (qk (qap (qk rfl (qk rfl (qk rfl
   (qk rfl zl))))) zl)),hS18,(z0 (SlN.pf hv7 Reader.RO) (z0 (SlF.pf hv11 (fun _=>rfl)) (z0 (SlF.pf hv15 (fun _=>rfl)) yc))),fun h19 hS20=>?_⟩
 have hS21:Sep h19 (geL h.length) (c6++(c10++(c14++([])))):=by simpa only [List.append_assoc,List.nil_append] using hS20
 simp only [qd,yl,qb,yv,yq,ja,B0,reduceIte,reduceEqDiff]
 refine zw hS21 (fun b22 h23 hS24=>?_)
 simp only [ja,B0,reduceIte,reduceEqDiff]
 refine zw hS24 (fun b26 h27 hS28=>?_)
 simp only [zn,B0,reduceIte,reduceEqDiff]
 refine zd (us:=[.int .i64 v2.1.Generation,v5,v9,v13]) rfl (cs':=[.int .i64 v2.1.Generation,v5,v9,
   v13]) (Sep.m1 hS28) hW rfl (qk rfl (qk (SlN.one hv7) (qk (SlF.one hv11) (qk (SlF.one hv15) zl)))) (Nat.le_of_ble_eq_true rfl) rfl (fun h30 hS31=>?_)
 simp only [zn,B0,reduceIte,reduceEqDiff]
 refine zd (us:=[.int .i64 v2.2.Kind,.int .i64 v2.2.K,.int .i64 v2.2.Part,.int .i64 v2.2.N]) rfl (cs':=[.int .i64 v2.2.Kind,.int .i64 v2.2.K,.int .i64 v2.2.Part,
   .int .i64 v2.2.N]) (Sep.m1 hS31) hW rfl rfl (Nat.le_of_ble_eq_true rfl) rfl (fun h32 hS33=>?_)
 simp only [qa,B0,reduceIte,reduceEqDiff]
 refine zu (Sep.m1 hS33) hW (by simp only [B0,reduceIte,reduceEqDiff]) (fun h34 hS35=>?_)
 refine zu hS35 hW (by simp only [B0,reduceIte,reduceEqDiff]) (fun h36 hS37=>?_)
 simp only [zp,qw9,qf,qe,qn,B0,reduceIte,reduceEqDiff]
 refine qj (v := .agg [.int .i64 v2.1.Generation,v5,v9,v13]) rfl ?_
 simp only [qn,B0,reduceIte,reduceEqDiff]
 refine qj (v := .agg [.int .i64 v2.2.Kind,.int .i64 v2.2.K,.int .i64 v2.2.Part,.int .i64 v2.2.N]) rfl ?_
 obtain ⟨v38,hx39,hF40⟩:=qh hF4
 simp only [qw,B0,reduceIte,reduceEqDiff]
 refine xz rfl hS37 (qi (jb (qi qs (qi (SlN.snap hv7 _ hS37 rfl Reader.RO) (qi (SlF.snap hv11 (Sep.m1 hS37) rfl (fun _=>rfl) (fun _=>rfl)) (qi
   (SlF.snap hv15 (Sep.m2 hS37) rfl (fun _=>rfl) (fun _=>rfl)) qy))))) (qi (jb (qi qs (qi qs (qi qs
   (qi qs qy))))) qy)) (qhr (fun b hb=>decide_eq_true hb) v2.1 v2.2 v38 hx39) ?_
 rintro _ h53 ⟨v41,c42,v45,c46,v49,c50,rfl,hv43,hv47,hv51,hS54⟩
 refine ⟨_,qbv (qk (qap (qk rfl (qk (SlN.free1 hv43) (qk (SlF.free1 hv47) (qk (SlF.free1 hv51) zl))))) (qk rfl zl)),hS54,
   (z0 (SlN.pf hv43 Reader.RO) (z0 (SlF.pf hv47 (fun _=>rfl)) (z0 (SlF.pf hv51 (fun _=>rfl)) yc))),fun h55 hS56=>?_⟩
 have hS57:Sep h55 (geL h.length) (c42++(c46++(c50++(c6++(c10++(c14++([]))))))):=by simpa only [List.append_assoc,List.nil_append] using hS56
 simp only [qd,yl,qb,yv,yq,ja,B0,reduceIte,reduceEqDiff]
 refine zw hS57 (fun b58 h59 hS60=>?_)
 simp only [zn,B0,reduceIte,reduceEqDiff]
 refine zd (us:=[.int .i64 v38.1.Generation,v41,v45,v49]) rfl (cs':=[.int .i64 v38.1.Generation,v41,v45,
   v49]) hS60 hW rfl (qk rfl (qk (SlN.one hv43) (qk (SlF.one hv47) (qk (SlF.one hv51) zl)))) (Nat.le_of_ble_eq_true rfl) rfl (fun h62 hS63=>?_)
 simp only [qd,qa,B0,reduceIte,reduceEqDiff]
 refine zu hS63 hW (by simp only [B0,reduceIte,reduceEqDiff]) (fun h64 hS65=>?_)
 simp only [zp,qxx,qf,qe,qn,B0,reduceIte,reduceEqDiff]
 refine qj (v := .agg [.int .i64 v2.1.Generation,v5,v9,v13]) rfl ?_
 simp only [qn,B0,reduceIte,reduceEqDiff]
 refine qj (v := .agg [.int .i64 v2.2.Kind,.int .i64 v2.2.K,.int .i64 v2.2.Part,.int .i64 v2.2.N]) rfl ?_
 obtain ⟨v66,hx67,hF68⟩:=qh hF40
 simp only [qw,B0,reduceIte,reduceEqDiff]
 refine xz rfl hS65 (qi (jb (qi qs (qi (SlN.snap hv7 _ (Sep.m3 hS65) rfl Reader.RO) (qi (SlF.snap hv11 (Sep.m4 hS65) rfl (fun _=>rfl)
   (fun _=>rfl)) (qi (SlF.snap hv15 (Sep.m5 hS65) rfl (fun _=>rfl) (fun _=>rfl)) qy))))) (qi (jb (qi qs (qi qs (qi qs
   (qi qs qy))))) qy)) (qhu (fun b hb=>decide_eq_true hb) v2.1 v2.2 v66 hx67) ?_
 rintro _ h81 ⟨v69,c70,v73,c74,v77,c78,rfl,hv71,hv75,hv79,hS82⟩
 refine ⟨_,qbv (qk (qap (qk rfl (qk (SlN.free1 hv71) (qk (SlF.free1 hv75) (qk (SlF.free1 hv79) zl))))) (qk rfl zl)),hS82,
   (z0 (SlN.pf hv71 Reader.RO) (z0 (SlF.pf hv75 (fun _=>rfl)) (z0 (SlF.pf hv79 (fun _=>rfl)) yc))),fun h83 hS84=>?_⟩
 have hS85:Sep h83 (geL h.length) (c70++(c74++(c78++(c42++(c46++(c50++(c6++(c10++(c14++([])))))))))):=by simpa only [List.append_assoc,
   List.nil_append] using hS84
 simp only [qd,yl,qb,yv,yq,ja,B0,reduceIte,reduceEqDiff]
 refine zw hS85 (fun b86 h87 hS88=>?_)
 simp only [zn,B0,reduceIte,reduceEqDiff]
 refine zd (us:=[.int .i64 v66.1.Generation,v69,v73,v77]) rfl (cs':=[.int .i64 v66.1.Generation,v69,v73,
   v77]) hS88 hW rfl (qk rfl (qk (SlN.one hv71) (qk (SlF.one hv75) (qk (SlF.one hv79) zl)))) (Nat.le_of_ble_eq_true rfl) rfl (fun h90 hS91=>?_)
 simp only [qd,qa,B0,reduceIte,reduceEqDiff]
 refine zu hS91 hW (by simp only [B0,reduceIte,reduceEqDiff]) (fun h92 hS93=>?_)
 simp only [zp,qz0,qf,jc,z8,ql,ql2,qjs,B0,reduceIte,reduceEqDiff]
 simp only [qv (g:=70),B0,reduceIte,reduceEqDiff]
 refine kj (t:=(!(v38.2 == v66.2))) (fun hg94=>?_) (fun hg94=>?_)
 ·rw [iteT hg94] at hF68
  simp only [hg94,qv (g:=70),xg,jx,ql,zk,z8,qv (g:=76),zc,za,qhw,qf,qe,qd,
    qa,qx,B0,reduceIte,reduceEqDiff]
  have he:=qg hF68
  subst he
  simp only [zi,B0,reduceIte,reduceEqDiff]
  exact rfl
 rw [iteF hg94] at hF68
 simp only [hg94,qv (g:=70),zt,zm,B0,reduceIte,reduceEqDiff]
 refine qp (v := .agg [.int .i64 v38.1.Generation,v41,v45,v49]) rfl ?_
 simp only [hg94,qv (g:=70),zt,zm,B0,reduceIte,reduceEqDiff]
 refine qp (v := .agg [.int .i64 v66.1.Generation,v69,v73,v77]) rfl ?_
 obtain ⟨v95,hx96,hF97⟩:=qh hF68
 simp only [hg94,qv (g:=70),zt,y5,B0,reduceIte,reduceEqDiff]
 refine qel rfl (qi (jb (qi qs (qi (SlN.snap hv43 _ (Sep.m3 hS93) rfl Reader.RO) (qi (SlF.snap hv47 (Sep.m4 hS93) rfl (fun _=>rfl) (fun _=>rfl))
   (qi (SlF.snap hv51 (Sep.m5 hS93) rfl (fun _=>rfl) (fun _=>rfl)) qy))))) (qi (jb (qi qs (qi (SlN.snap hv71 _ hS93 rfl Reader.RO) (qi
   (SlF.snap hv75 (Sep.m1 hS93) rfl (fun _=>rfl) (fun _=>rfl)) (qi (SlF.snap hv79 (Sep.m2 hS93) rfl (fun _=>rfl) (fun _=>rfl)) qy))))) qy))
   (qet (fun b hb=>decide_eq_true hb) v38.1 v66.1 v95 hx96) ?_
 simp only [hg94,qv (g:=70),zt,qf5,ql,jt,jx,zj,z8,B0,reduceIte,reduceEqDiff]
 simp only [qv (g:=76),B0,reduceIte,reduceEqDiff]
 refine kj (t:=(!v95)) (fun hg98=>?_) (fun hg98=>?_)
 ·rw [iteT hg98] at hF97
  simp only [hg98,qv (g:=76),xg,jx,ql,zk,zc,za,qhw,qf,qe,qd,qa,qx,B0,
    reduceIte,reduceEqDiff]
  have he:=qg hF97
  subst he
  simp only [zi,B0,reduceIte,reduceEqDiff]
  exact rfl
 rw [iteF hg98] at hF97
 simp only [hg98,qv (g:=76),zt,zm,B0,reduceIte,reduceEqDiff]
 refine qp (v := .agg [.int .i64 v2.1.Generation,v5,v9,v13]) rfl ?_
 obtain ⟨v99,hx100,hF101⟩:=qh hF97
 simp only [hg98,qv (g:=76),zt,ut,B0,reduceIte,reduceEqDiff]
 refine q38 rfl (qi (jb (qi qs (qi (SlN.snap hv7 _ (Sep.m6 hS93) rfl Reader.RO) (qi (SlF.snap hv11 (Sep.m7 hS93) rfl (fun _=>rfl) (fun _=>rfl))
   (qi (SlF.snap hv15 (Sep.m8 hS93) rfl (fun _=>rfl) (fun _=>rfl)) qy))))) qy) (qep (fun b hb=>decide_eq_true hb) v2.1 v99 hx100) ?_
 simp only [hg98,qv (g:=76),zt,qcu,qba,B0,reduceIte,reduceEqDiff]
 refine qp (v := .agg [.int .i64 v2.1.Generation,v5,v9,v13]) rfl ?_
 obtain ⟨v102,hx103,hF104⟩:=qh hF101
 simp only [hg98,qv (g:=76),zt,y5,B0,reduceIte,reduceEqDiff]
 refine qel rfl (qi (jb (qi qs (qi (SlN.snap hv7 _ (Sep.m6 hS93) rfl Reader.RO) (qi (SlF.snap hv11 (Sep.m7 hS93) rfl (fun _=>rfl) (fun _=>rfl))
   (qi (SlF.snap hv15 (Sep.m8 hS93) rfl (fun _=>rfl) (fun _=>rfl)) qy))))) qy) (xw (fun b hb=>decide_eq_true hb) v2.1 v102 hx103) ?_
 simp only [hg98,qv (g:=76),zt,ql2,ql,qjs,jx,zj,zc,za,B0,reduceIte,reduceEqDiff]
 refine qz (t:=(!(v99 == v102))) (fun hc105=>?_) (fun hc105=>?_)
 ·rw [iteT hc105] at hF104
  simp only [qf,qe,qd,qa,qx,B0,reduceIte,reduceEqDiff]
  have he:=qg hF104
  subst he
  simp only [zi,B0,reduceIte,reduceEqDiff]
  exact rfl
 rw [iteF hc105] at hF104
 simp only [zh,q0l,qf,qe,qd,qa,qye,za,B0,reduceIte,reduceEqDiff]
 obtain ⟨oc106,hX107,hk108⟩:=jj hF104
 refine qbs (t:=v38.2) (fun fr' h'=>∃ s,oc106 = .nxt s∧fr' 1=lst cU8 v_1∧Sep h' (geL h.length) ([])) (fun Q109 hN110 hR111 hE112=>⟨fun hc113=>?_,
   fun hc113=>?_⟩) ?_
 ·rw [iteT hc113] at hX107
  simp only [q0p,qf,qe,qn,B0,reduceIte,reduceEqDiff]
  refine qj (v := .agg [.int .i64 v38.1.Generation,v41,v45,v49]) rfl ?_
  obtain ⟨v114,hx115,hF116⟩:=qh hX107
  simp only [qw,B0,reduceIte,reduceEqDiff]
  refine je rfl (qi (jb (qi qs (qi (SlN.snap hv43 _ (Sep.m3 hS93) rfl Reader.RO) (qi (SlF.snap hv47 (Sep.m4 hS93) rfl (fun _=>rfl) (fun _=>rfl))
    (qi (SlF.snap hv51 (Sep.m5 hS93) rfl (fun _=>rfl) (fun _=>rfl)) qy))))) qy) (qep (fun b hb=>decide_eq_true hb) v38.1 v114 hx115) ?_
  simp only [jf,qb,jt,qa,za,B0,reduceIte,reduceEqDiff]
  refine qz (t:=(!v114)) (fun hc117=>?_) (fun hc117=>?_)
  ·rw [iteT hc117] at hF116
   simp only [qf,qe,qd,qa,qx,B0,reduceIte,reduceEqDiff]
   have e118:=qg hF116
   subst e118
   have hk108':=hk108
   dsimp only [jnO] at hk108'
   apply hR111
   have he:=qg hk108'
   subst he
   simp only [zi,B0,reduceIte,reduceEqDiff]
   exact rfl
  rw [iteF hc117] at hF116
  simp only [zh,q04,qf,jc,zv,ql,Nat.reduceAdd,Nat.zero_add,Nat.add_zero,qq,zm,B0,reduceIte,reduceEqDiff]
  refine qp (v:=v45) rfl ?_
  simp only [zv,ql,Nat.reduceAdd,Nat.zero_add,Nat.add_zero,qq,zm,B0,reduceIte,reduceEqDiff]
  refine qp (v:=v9) rfl ?_
  obtain ⟨v119,hx120,hF121⟩:=qh hF116
  simp only [y5,B0,reduceIte,reduceEqDiff]
  refine qel rfl (qi (SlF.snap hv47 (Sep.m4 hS93) rfl (fun _=>rfl) (fun _=>rfl)) (qi (SlF.snap hv11 (Sep.m7 hS93) rfl (fun _=>rfl) (fun _=>rfl)) qy))
    (x5 (fun b hb=>decide_eq_true hb) v38.1.Committed v2.1.Committed v119 hx120) ?_
  simp only [qf5,ql,jt,z8,B0,reduceIte,reduceEqDiff]
  obtain ⟨v125,hx126,hF127⟩:=qh hF121
  refine qc2 16 (fun fr' h'=>Sep h' (geL h.length) (c42++(c46++(c50++([]))))∧fr' 109 = .bool v125∧fr' 1=lst cU8 v_1∧fr' 7 = .ref [.int .i64 v38.1.Generation,
    v41,v45,v49] 0) rfl (fun Q122 hN123=>?_) ?_
  ·simp only [List.take_succ_cons,List.take_zero]
   simp only [qv (g:=93),B0,reduceIte,reduceEqDiff]
   refine kj (t:=(!v119)) (fun hg124=>?_) (fun hg124=>?_)
   ·rw [iteT hg124] at hx126
    simp only [hg124,qv (g:=93),j5,zv,ql,Nat.reduceAdd,Nat.zero_add,Nat.add_zero,qq,zm,B0,reduceIte,reduceEqDiff]
    refine qp (v := .int .i64 v2.2.Kind) rfl ?_
    simp only [hg124,qv (g:=93),j5,yh,ql,wx,z8,B0,reduceIte,reduceEqDiff]
    obtain ⟨v131,hx132,hF133⟩:=qh hx126
    refine qc2 11 (fun fr' h'=>Sep h' (geL h.length) (c42++(c46++(c50 ++
      ([]))))∧fr' 108 = .bool v131∧fr' 1=lst cU8 v_1∧fr' 7 = .ref [.int .i64 v38.1.Generation,v41,v45,
      v49] 0∧fr' 93 = .bool (!v119)) rfl (fun Q128 hN129=>?_) ?_
    ·simp only [List.take_succ_cons,List.take_zero]
     simp only [qv (g:=97),B0,reduceIte,reduceEqDiff]
     refine kj (t:=(decide (v2.2.Kind≠5))) (fun hg130=>?_) (fun hg130=>?_)
     ·rw [iteT hg130] at hx132
      simp only [hg130,qv (g:=97),xg,hg124,qv (g:=93),j5,jx,ql,zk,zc,qm,B0,reduceIte,
        reduceEqDiff]
      have e134:=qg hx132
      exact hN129 _ _ ⟨(Sep.m2 (Sep.m2 (Sep.m2 (Sep.dc (Sep.m3 (Sep.dc (Sep.m3 (Sep.dc (Sep.m3 (Sep.dc ((Sep.dc ((Sep.dc (hS93))))))))))))))),by rw [←e134]; simp only [B0,
        reduceIte,reduceEqDiff],zf1,rfl,by simp only [hg124,B0,reduceIte,reduceEqDiff]⟩
     ·rw [iteF hg130] at hx132
      simp only [hg130,qv (g:=97),zt,zv,ql,Nat.reduceAdd,Nat.zero_add,Nat.add_zero,qq,zm,B0,reduceIte,reduceEqDiff]
      refine qp (v:=v5) rfl ?_
      simp only [hg130,qv (g:=97),zt,zv,ql,Nat.reduceAdd,Nat.zero_add,Nat.add_zero,qq,zm,B0,reduceIte,reduceEqDiff]
      refine qp (v := .int .i64 v2.2.K) rfl ?_
      obtain ⟨x135,hx136,hF137⟩:=qh hx132
      simp only [hg130,qv (g:=97),zt,yj,B0,reduceIte,reduceEqDiff]
      obtain ⟨b138,hb139⟩:=SlN.isrow hv7 (ku hx136)
      refine qp (SlN.ia hv7 hb139 hx136) ?_
      obtain ⟨c140,cs141,os142,hv143,hR144,hS145⟩:=SlG.opn (SlN.toG hv7 hb139 Reader.RO.len) hx136 kv Reader.RO.len (Sep.m6 hS93)
      obtain ⟨v147,c148,v151,c152,hv149,hv153,rfl,rfl⟩:=hR144
      have hS146:=Sep.no2 hS145
      simp only [hg130,qv (g:=97),zt,zv,ql,Nat.reduceAdd,Nat.zero_add,Nat.add_zero,zg,zm,B0,reduceIte,reduceEqDiff]
      refine qp (v := .int .i64 x135.Generation) ((SlG.ld (o:=1) hv143 rfl hx136 hS146 (Nat.le_of_ble_eq_true rfl)).trans rfl) ?_
      simp only [hg130,qv (g:=97),zt,zv,ql,Nat.reduceAdd,Nat.zero_add,Nat.add_zero,qq,zm,B0,reduceIte,reduceEqDiff]
      refine qp (v := .int .i64 v2.1.Generation) rfl ?_
      simp only [hg130,qv (g:=97),zt,yh,ql,wx,hg124,qv (g:=93),j5,jx,zj,zc,qm,B0,
        reduceIte,reduceEqDiff]
      have e155:=qg hF137
      exact hN129 _ _ ⟨(Sep.m2 (Sep.m2 (Sep.m2 (Sep.dc (Sep.m3 (Sep.dc (Sep.m3 (Sep.dc (Sep.m3 (Sep.dc ((Sep.dc ((Sep.dc (hS93))))))))))))))),by rw [←e155]; simp only [B0,
        reduceIte,reduceEqDiff],zf1,rfl,by simp only [hg124,B0,reduceIte,reduceEqDiff]⟩
    rintro fr156 h161 ⟨hS162,f157,f158,f159,f160⟩
    simp only [List.drop_succ_cons,List.drop_zero]
    simp only [f160,hg124,jx,ql,zk,f157,zc,qm,B0,reduceIte,reduceEqDiff]
    have e163:=qg hF133
    exact hN123 _ _ ⟨(Sep.m2 (Sep.m2 (Sep.m2 hS162))),by rw [←e163]; simp only [B0,reduceIte,reduceEqDiff],f158,f159⟩
   ·rw [iteF hg124] at hx126
    simp only [hg124,qv (g:=93),qcn,qv (g:=97),qhc,jx,ql,zj,zc,qm,B0,reduceIte,reduceEqDiff]
    have e164:=qg hx126
    exact hN123 _ _ ⟨(Sep.m2 (Sep.m2 (Sep.m2 (Sep.dc (Sep.m3 (Sep.dc (Sep.m3 (Sep.dc (Sep.m3 (Sep.dc ((Sep.dc ((Sep.dc (hS93))))))))))))))),by rw [←e164]; simp only [B0,
      reduceIte,reduceEqDiff],zf1,rfl⟩
  rintro fr165 h169 ⟨hS170,f166,f167,f168⟩
  simp only [List.drop_succ_cons,List.drop_zero]
  simp only [zc,f166,za,B0,reduceIte,reduceEqDiff]
  refine qz (t:=v125) (fun hc171=>?_) (fun hc171=>?_)
  ·rw [iteT hc171] at hF127
   simp only [qf,qe,qd,qa,qx,B0,reduceIte,reduceEqDiff]
   have e172:=qg hF127
   subst e172
   have hk108':=hk108
   dsimp only [jnO] at hk108'
   apply hR111
   have he:=qg hk108'
   subst he
   simp only [zi,B0,reduceIte,reduceEqDiff]
   exact rfl
  rw [iteF hc171] at hF127
  simp only [zh,q0i,qf,qe,qd,qa,qyk,f168,qt,qb,Nat.reduceAdd,Nat.zero_add,Nat.add_zero,qq,qn,B0,reduceIte,
    reduceEqDiff]
  refine qj (v:=v41) rfl ?_
  simp only [zo,qb,SlN.len hv43,qd,qa,B0,reduceIte,reduceEqDiff]
  obtain ⟨oc191,hX193,hk194⟩:=jj hF127
  simp only [q0u]
  refine qbr (σ:=(List Int) × (List Reader)) (fun i189 s339=>we v38 i189 s339.1 s339.2) (fun s fr' h'=>∃ v183 c184 c187,
    fr' 1=lst cU8 v_1∧fr' 7 = .ref [.int .i64 v38.1.Generation,v41,v45,
    v49] 0∧fr' 11=v183∧fr' 111=v41∧SlF cI 1 3 v183 s.1 c184∧SlN Reader.R 4 37 v41 s.2 c187∧Sep h' (geL h.length) (c187++(c46++(c50++(c184 ++
    ([])))))) hX193 ⟨.nil,[],c42,f167,f168,rfl,rfl,SlF.nil,hv43,
    ((Sep.m2 (Sep.m2 (Sep.m2 hS170))) : Sep _ (geL h.length) (c42++(c46++(c50++([])))))⟩ (by simp only [B0,reduceIte,reduceEqDiff]) (by simp only [B0,reduceIte,
    reduceEqDiff]) (fun _ _ _ h=>h) rfl rfl (fun _ _ _ _ h=>h) (fun _ _ _ _ h=>h) (fun _ _ _ _ h=>h) (by decide) ?_ ?_
  ·rintro i189 ⟨s181,s186⟩ fr203 h204 hx210 ⟨v183,c184,c187,f206,f207,f208,f209,hv185,hv188,hS205⟩ f211 f212 oc192 hF195 hr196 Q197 hN198 hB202 hK199 hR200 hE201
   dsimp only at *
   unfold we at hF195
   obtain ⟨x213,hx214,hF215⟩:=qh hF195
   simp only [q4q,qf,qe,f211,qd,f209,jo,B0,reduceIte,reduceEqDiff]
   obtain ⟨b216,hb217⟩:=SlN.isrow hv188 (ku hx214)
   refine qj (SlN.ia hv188 hb217 hx214) ?_
   obtain ⟨c218,cs219,os220,hv221,hR222,hS223⟩:=SlG.opn (SlN.toG hv188 hb217 Reader.RO.len) hx214 kv Reader.RO.len hS205
   obtain ⟨v225,c226,v229,c230,hv227,hv231,rfl,rfl⟩:=hR222
   have hS224:=Sep.no2 hS223
   simp only [qn,B0,reduceIte,reduceEqDiff]
   refine qj (v := .agg [.bool x213.In,.int .i64 x213.Generation,v225,v229]) ((SlG.lds (o:=0) hv221 rfl hx214 hS224 (Nat.le_of_ble_eq_true rfl)).trans rfl) ?_
   simp only [ja,B0,reduceIte,reduceEqDiff]
   refine zw hS224 (fun b233 h234 hS235=>?_)
   simp only [qd,zn,B0,reduceIte,reduceEqDiff]
   refine zd (us:=[.bool x213.In,.int .i64 x213.Generation,v225,v229]) rfl (cs':=[.bool x213.In,.int .i64 x213.Generation,v225,
     v229]) hS235 hW rfl (qk rfl (qk rfl (qk (SlF.one hv227) (qk (SlF.one hv231) zl)))) (Nat.le_of_ble_eq_true rfl) rfl (fun h237 hS238=>?_)
   simp only [qa,B0,reduceIte,reduceEqDiff]
   refine zu hS238 hW (by simp only [B0,reduceIte,reduceEqDiff]) (fun h239 hS240=>?_)
   simp only [zp,q36,qf,qe,f207,qn,B0,reduceIte,reduceEqDiff]
   refine qj (v := .agg [.int .i64 v38.1.Generation,v41,v45,v49]) rfl ?_
   obtain ⟨c241,hv242,hS243⟩:=SlG.cls0 (c:=c218) (os:=c226++(c230)) hv221 rfl hx214 kv (Reader.RI (x:=x213) hv227 hv231) (Sep.ni2 (c1:=c226) (c2:=c230)
     (Sep.m2 (Sep.m2 (Sep.m2 hS240))))
   have hv244:=SlG.toN hv242
   obtain ⟨v245,hx246,hF247⟩:=qh hF215
   simp only [qd,qw,B0,reduceIte,reduceEqDiff]
   refine je rfl (qi (jb (qi qs (qi (SlN.snap hv244 _ hS243 rfl Reader.RO) (qi (SlF.snap hv47 (Sep.m1 hS243) rfl (fun _=>rfl) (fun _=>rfl))
     (qi (SlF.snap hv51 (Sep.m2 hS243) rfl (fun _=>rfl) (fun _=>rfl)) qy))))) (qi qs qy)) (qgq (fun b hb=>decide_eq_true hb)
     (Readers_.mk v38.1.Generation s186 v38.1.Committed v38.1.Ends) (i189:Int) v245 hx246) ?_
   simp only [qd,yl,qb,yv,yq,qa,q34,qf,qe,qt,Nat.reduceAdd,Nat.zero_add,Nat.add_zero,qq,qn,B0,
     reduceIte,reduceEqDiff]
   refine qj (v := .bool x213.In) rfl ?_
   simp only [qfj,qb,qjs,qa,za,B0,reduceIte,reduceEqDiff]
   refine qz (t:=(!(v245.2 == x213.In))) (fun hc248=>?_) (fun hc248=>?_)
   ·rw [iteT hc248] at hF247
    simp only [qf,qe,qd,qa,qx,B0,reduceIte,reduceEqDiff]
    have e249:=qg hF247
    subst e249
    have ho250:=hr196 _ rfl
    have hk251:=hk194
    rw [ho250] at hk251
    dsimp only [jnO] at hk251
    apply hR200
    have e252:=qg hk251
    subst e252
    have hk108':=hk108
    dsimp only [jnO] at hk108'
    apply hR111
    have he:=qg hk108'
    subst he
    simp only [zi,B0,reduceIte,reduceEqDiff]
    exact rfl
   rw [iteF hc248] at hF247
   simp only [zh,q3v,qf,qe,qd,zo,qb,zr,qa,B0,reduceIte,reduceEqDiff]
   obtain ⟨c253,hv254,hS255⟩:=SlG.cls0 (c:=c218) (os:=c226++(c230)) hv221 rfl hx214 kv (Reader.RI (x:=x213) hv227 hv231) (Sep.ni2 (c1:=c226) (c2:=c230)
     (Sep.m2 (Sep.m2 (Sep.m2 hS240))))
   have hv256:=SlG.toN hv254
   obtain ⟨oc269,hX271,hk272⟩:=jj hF247
   simp only [q35]
   refine j8 (σ:=(List Int)) v245.1 (fun i267 x268 s321=>ym i267 x268 s321) (fun s fr' h'=>∃ v264 c265,
     fr' 1=lst cU8 v_1∧fr' 7 = .ref [.int .i64 v38.1.Generation,v41,v45,
     v49] 0∧fr' 11=v264∧fr' 111=v41∧fr' 112 = .int .i64 (List.length v38.1.Readers:Int)∧fr' 113 = .int .i64
     (i189:Int)∧fr' 128=lst cI v245.1∧SlF cI 1 3 v264 s c265∧Sep h' (geL h.length) (c253++(c46++(c50++(c265++([])))))) hX271 ⟨v183,c184,f206,f207,f208,
     f209,f212,f211,rfl,hv185,(Sep.m3 (Sep.m3 (Sep.m3 (Sep.m3 hS255))))⟩ (by simp only [B0,reduceIte,reduceEqDiff]) (by simp only [B0,reduceIte,
     reduceEqDiff]) (fun _ _ _ h=>h) rfl rfl (fun _ _ _ _ h=>h) (fun _ _ _ _ h=>h) (fun _ _ _ _ h=>h) (by decide) ?_ ?_
   ·rintro i267 x268 s262 fr281 h282 hx291 ⟨v264,c265,f284,f285,f286,f287,f288,f289,f290,hv266,hS283⟩ f292 f293 oc270 hF273 hr274 Q275 hN276 hB280 hK277 hR278 hE279
    unfold ym at hF273
    simp only [q3z,qf,qe,f290,f292,jo,B0,reduceIte,reduceEqDiff]
    refine qj (v := .ref (cI x268) 0) (j7 hx291 rfl) ?_
    simp only [qn,B0,reduceIte,reduceEqDiff]
    refine qj (v := .int .i64 x268) rfl ?_
    obtain ⟨v294,hx295,hF296⟩:=qh hF273
    simp only [qd,qa,q4j,qf,qe,f286,qw,B0,reduceIte,reduceEqDiff]
    refine je rfl (qi (SlF.snap hv266 (Sep.m3 hS283) rfl (fun _=>rfl) (fun _=>rfl)) (qi qs qy)) (qoc
      (fun b hb=>decide_eq_true hb) s262 x268 v294 hx295) ?_
    simp only [qa,za,B0,reduceIte,reduceEqDiff]
    refine qz (t:=v294) (fun hc297=>?_) (fun hc297=>?_)
    ·rw [iteT hc297] at hF296
     simp only [qf,qe,qd,qa,qx,B0,reduceIte,reduceEqDiff]
     have e298:=qg hF296
     subst e298
     have ho299:=hr274 _ rfl
     have hk300:=hk272
     rw [ho299] at hk300
     dsimp only [jnO] at hk300
     apply hR278
     have e301:=qg hk300
     subst e301
     have ho302:=hr196 _ rfl
     have hk303:=hk194
     rw [ho302] at hk303
     dsimp only [jnO] at hk303
     apply hR200
     have e304:=qg hk303
     subst e304
     have hk108':=hk108
     dsimp only [jnO] at hk108'
     apply hR111
     have he:=qg hk108'
     subst he
     simp only [zi,B0,reduceIte,reduceEqDiff]
     exact rfl
    rw [iteF hc297] at hF296
    simp only [zh,q31,qe,f286,qd,kf,evp,B0,reduceIte,reduceEqDiff]
    refine ju (n:=1) (f:=cI) [x268] hS283 rfl rfl (fun v305 c306 h307 hv308 hS309=>?_)
    simp only [qal,B0,reduceIte,reduceEqDiff]
    obtain ⟨l311,hx312,hF313⟩:=qh hF296
    refine xq (f:=cI) hv266 (Sep.m4 hS309) hW (fun _=>rfl) (fun _=>rfl) (SlF.first hv308 hS309 (fun _=>rfl)) hx312 (fun v314 c315 h316 hv317 hS318=>?_)
    simp only [qd,qa,qm,B0,reduceIte,reduceEqDiff]
    have e320:=qg hF313
    exact hN276 _ _ _ e320.symm ⟨v314,c315,f284,f285,rfl,f287,f288,f289,f290,hv317,(Sep.m3 (Sep.m3 (Sep.m3 (Sep.dc (Sep.m1 hS318)))))⟩ (f292) (f293)
   rintro s322 fr327 h328 rfl ⟨v324,c325,f330,f331,f332,f333,f334,f335,f336,hv326,hS329⟩
   dsimp only [jnO] at hk272
   unfold qbd at hk272
   simp only [qm,B0,reduceIte,reduceEqDiff]
   have e337:=qg hk272
   exact hN198 _ _ _ e337.symm ⟨v324,c325,c253,f330,f331,f332,f333,hv326,hv256,(Sep.m3 (Sep.m3 (Sep.m3 (Sep.m3 hS329))))⟩ (f335) (f334)
  rintro ⟨s340,s345⟩ fr348 h349 rfl ⟨v342,c343,c346,f351,f352,f353,f354,hv344,hv347,hS350⟩
  dsimp only [jnO] at hk194
  dsimp only at *
  unfold qbj at hk194
  simp only [qw4,qf,qe,qd,qa,q17,f352,qt,qb,Nat.reduceAdd,Nat.zero_add,Nat.add_zero,qq,qn,B0,reduceIte,
    reduceEqDiff]
  refine qj (v:=v41) rfl ?_
  simp only [zo,qb,SlN.len hv347,qd,qa,B0,reduceIte,reduceEqDiff]
  obtain ⟨oc365,hX367,hk368⟩:=jj hk194
  simp only [qy1]
  refine qbr (σ:=Bool × (List Reader)) (fun i363 s434=>wd i363 s434.1 s434.2) (fun s fr' h'=>∃ c361,
    fr' 1=lst cU8 v_1∧fr' 7 = .ref [.int .i64 v38.1.Generation,v41,v45,
    v49] 0∧fr' 11=v342∧fr' 18 = .bool s.1∧fr' 144=v41∧SlN Reader.R 4 37 v41 s.2 c361∧Sep h' (geL h.length) (c361++(c46++(c50++(c343 ++
    ([])))))) hX367 ⟨c346,f351,f352,f353,rfl,rfl,hv347,(Sep.m3 (Sep.m3 (Sep.m3 (Sep.m3 hS350))))⟩ (by simp only [B0,reduceIte,reduceEqDiff]) (by simp only [B0,
    reduceIte,reduceEqDiff]) (fun _ _ _ h=>h) rfl rfl (fun _ _ _ _ h=>h) (fun _ _ _ _ h=>h) (fun _ _ _ _ h=>h) (by decide) ?_ ?_
  ·rintro i363 ⟨s359,s360⟩ fr377 h378 hx385 ⟨c361,f380,f381,f382,f383,f384,hv362,hS379⟩ f386 f387 oc366 hF369 hr370 Q371 hN372 hB376 hK373 hR374 hE375
   dsimp only at *
   unfold wd at hF369
   obtain ⟨x388,hx389,hF390⟩:=qh hF369
   simp only [quj,qf,qe,f384,f386,jo,B0,reduceIte,reduceEqDiff]
   obtain ⟨b391,hb392⟩:=SlN.isrow hv362 (ku hx389)
   refine qj (SlN.ia hv362 hb392 hx389) ?_
   obtain ⟨c393,cs394,os395,hv396,hR397,hS398⟩:=SlG.opn (SlN.toG hv362 hb392 Reader.RO.len) hx389 kv Reader.RO.len hS379
   obtain ⟨v400,c401,v404,c405,hv402,hv406,rfl,rfl⟩:=hR397
   have hS399:=Sep.no2 hS398
   simp only [qn,B0,reduceIte,reduceEqDiff]
   refine qj (v := .agg [.bool x388.In,.int .i64 x388.Generation,v400,v404]) ((SlG.lds (o:=0) hv396 rfl hx389 hS399 (Nat.le_of_ble_eq_true rfl)).trans rfl) ?_
   simp only [ja,B0,reduceIte,reduceEqDiff]
   refine zw hS399 (fun b408 h409 hS410=>?_)
   simp only [zn,B0,reduceIte,reduceEqDiff]
   refine zd (us:=[.bool x388.In,.int .i64 x388.Generation,v400,v404]) rfl (cs':=[.bool x388.In,.int .i64 x388.Generation,v400,
     v404]) hS410 hW rfl (qk rfl (qk rfl (qk (SlF.one hv402) (qk (SlF.one hv406) zl)))) (Nat.le_of_ble_eq_true rfl) rfl (fun h412 hS413=>?_)
   simp only [qa,B0,reduceIte,reduceEqDiff]
   refine zu hS413 hW (by simp only [B0,reduceIte,reduceEqDiff]) (fun h414 hS415=>?_)
   simp only [zp,q1r,qe,f383,qd,B0,reduceIte,reduceEqDiff]
   refine z4 3 (fun fr' h'=>Sep h' (geL h.length) (c393++(c46++(c50++(c343++(c401++(c405++([])))))))∧fr' 154 = .bool
     (s359||x388.In)∧fr' 1=lst cU8 v_1∧fr' 7 = .ref [.int .i64 v38.1.Generation,v41,v45,
     v49] 0∧fr' 11=v342∧fr' 144=v41∧fr' 145 = .int .i64 (List.length s345:Int)∧fr' 146 = .int .i64 (i363:Int)) (fun Q416 hN417=>?_) ?_
   ·simp only [List.take_succ_cons,List.take_zero]
    simp only [qc (g:=151),B0,reduceIte,reduceEqDiff]
    refine q8 (t:=s359) (fun hg418=>?_) (fun hg418=>?_)
    ·simp only [hg418,qc (g:=151),zy,qr,qb,zk,qa,qm,B0,reduceIte,reduceEqDiff]
     exact hN417 _ _ ⟨(Sep.m5 (Sep.m5 (Sep.m5 (Sep.m5 (Sep.m2 (Sep.m2 hS415)))))),by rw [orT hg418]; simp only [B0,reduceIte,reduceEqDiff],f380,f381,f382,f384,f387,
       f386⟩
    ·simp only [hg418,qc (g:=151),qo,qt,qb,Nat.reduceAdd,Nat.zero_add,Nat.add_zero,qq,qn,B0,reduceIte,reduceEqDiff]
     refine qj (v := .bool x388.In) rfl ?_
     simp only [hg418,qr,qb,zj,qa,qm,B0,reduceIte,reduceEqDiff]
     exact hN417 _ _ ⟨(Sep.m5 (Sep.m5 (Sep.m5 (Sep.m5 (Sep.m2 (Sep.m2 hS415)))))),by rw [orF hg418]; simp only [B0,reduceIte,reduceEqDiff],f380,f381,f382,f384,f387,
       f386⟩
   rintro fr419 h427 ⟨hS428,f420,f421,f422,f423,f424,f425,f426⟩
   simp only [List.drop_succ_cons,List.drop_zero]
   simp only [f420,qd,qa,qm,B0,reduceIte,reduceEqDiff]
   obtain ⟨c429,hv430,hS431⟩:=SlG.cls0 (c:=c393) (os:=c401++(c405)) hv396 rfl hx389 kv (Reader.RI (x:=x388) hv402 hv406) (Sep.ni2 (c1:=c401) (c2:=c405)
     (Sep.m2 (Sep.m5 (Sep.m5 hS428))))
   have hv432:=SlG.toN hv430
   have e433:=qg hF390
   exact hN372 _ _ _ e433.symm ⟨c429,f421,f422,f423,rfl,f424,hv432,(Sep.m3 (Sep.m3 (Sep.m3 (Sep.m3 hS431))))⟩ (f426) (f425)
  rintro ⟨s435,s436⟩ fr439 h440 rfl ⟨c437,f442,f443,f444,f445,f446,hv438,hS441⟩
  dsimp only [jnO] at hk368
  dsimp only at *
  unfold qbf at hk368
  simp only [qw1,qf,qe,f445,qd,B0,reduceIte,reduceEqDiff]
  refine z4 7 (fun fr' h'=>Sep h' (geL h.length) ([])∧fr' 164 = .bool (s435&&(decide ((List.length s340:Int) ≠
    (List.length v38.1.Ends:Int))))∧fr' 1=lst cU8 v_1) (fun Q447 hN448=>?_) ?_
  ·simp only [List.take_succ_cons,List.take_zero]
   simp only [qc (g:=157),B0,reduceIte,reduceEqDiff]
   refine q8 (t:=s435) (fun hg449=>?_) (fun hg449=>?_)
   ·simp only [hg449,qc (g:=157),zf,f444,qd,zo,qb,SlF.plen hv344,f443,qt,Nat.reduceAdd,Nat.zero_add,Nat.add_zero,qq,
     qn,B0,reduceIte,reduceEqDiff]
    refine qj (v:=v49) rfl ?_
    simp only [hg449,qc (g:=157),zf,zo,qb,SlF.plen hv51,q9,wx,qr,zk,qa,qm,B0,reduceIte,reduceEqDiff]
    exact hN448 _ _ ⟨(Sep.dc ((Sep.dc ((Sep.dc ((Sep.dc (hS441)))))))),by rw [xj hg449]; simp only [B0,reduceIte,reduceEqDiff],f442⟩
   ·simp only [hg449,qc (g:=157),jh,qr,qb,zj,qa,qm,B0,reduceIte,reduceEqDiff]
    exact hN448 _ _ ⟨(Sep.dc ((Sep.dc ((Sep.dc ((Sep.dc (hS441)))))))),by rw [xy hg449]; simp only [B0,reduceIte,reduceEqDiff],f442⟩
  rintro fr450 h453 ⟨hS454,f451,f452⟩
  simp only [List.drop_succ_cons,List.drop_zero]
  simp only [qa,f451,za,B0,reduceIte,reduceEqDiff]
  refine qz (t:=(s435&&(decide ((List.length s340:Int)≠(List.length v38.1.Ends:Int))))) (fun hc455=>?_) (fun hc455=>?_)
  ·rw [iteT hc455] at hk368
   simp only [qf,qe,qd,qa,qx,B0,reduceIte,reduceEqDiff]
   have e456:=qg hk368
   subst e456
   have hk108':=hk108
   dsimp only [jnO] at hk108'
   apply hR111
   have he:=qg hk108'
   subst he
   simp only [zi,B0,reduceIte,reduceEqDiff]
   exact rfl
  rw [iteF hc455] at hk368
  simp only [zh,qm,B0,reduceIte,reduceEqDiff]
  have e457:=qg hk368
  exact hN110 _ _ ⟨_,e457.symm,f452,hS454⟩
 ·rw [iteF hc113] at hX107
  simp only [zh,qm,B0,reduceIte,reduceEqDiff]
  have e460:=qg hX107
  exact hN110 _ _ ⟨_,e460.symm,zf1,(Sep.dc ((Sep.dc ((Sep.dc ((Sep.dc ((Sep.dc ((Sep.dc ((Sep.dc ((Sep.dc ((Sep.dc (hS93))))))))))))))))))⟩
 rintro fr461 h462 ⟨_,rfl,f464,hS463⟩
 dsimp only [jnO] at hk108
 unfold ud at hk108
 obtain ⟨v465,hx466,hF467⟩:=qh hk108
 simp only [qyh,qf,qe,f464,qd,qw,B0,reduceIte,reduceEqDiff]
 refine xz rfl hS463 (qi ze qy) (qh7 (fun b hb=>decide_eq_true hb) k v_1 v465 hx466) ?_
 rintro _ h480 ⟨v468,c469,v472,c473,v476,c477,rfl,hv470,hv474,hv478,hS481⟩
 refine ⟨_,qbv (qk (qap (qk rfl (qk (SlN.free1 hv470) (qk (SlF.free1 hv474) (qk (SlF.free1 hv478) zl))))) (qk rfl zl)),hS481,
   (z0 (SlN.pf hv470 Reader.RO) (z0 (SlF.pf hv474 (fun _=>rfl)) (z0 (SlF.pf hv478 (fun _=>rfl)) yc))),fun h482 hS483=>?_⟩
 have hS484:Sep h482 (geL h.length) (c469++(c473++(c477++([])))):=by simpa only [List.append_assoc,List.nil_append] using hS483
 simp only [qd,yl,qb,yv,yq,ja,B0,reduceIte,reduceEqDiff]
 refine zw hS484 (fun b485 h486 hS487=>?_)
 simp only [zn,B0,reduceIte,reduceEqDiff]
 refine zd (us:=[.int .i64 v465.1.Generation,v468,v472,v476]) rfl (cs':=[.int .i64 v465.1.Generation,v468,v472,
   v476]) hS487 hW rfl (qk rfl (qk (SlN.one hv470) (qk (SlF.one hv474) (qk (SlF.one hv478) zl)))) (Nat.le_of_ble_eq_true rfl) rfl (fun h489 hS490=>?_)
 simp only [qd,qa,B0,reduceIte,reduceEqDiff]
 refine zu hS490 hW (by simp only [B0,reduceIte,reduceEqDiff]) (fun h491 hS492=>?_)
 simp only [zp,q1j,qf,qe,qn,B0,reduceIte,reduceEqDiff]
 refine qj (v := .agg [.int .i64 v465.1.Generation,v468,v472,v476]) rfl ?_
 obtain ⟨v493,hx494,hF495⟩:=qh hF467
 simp only [qd,qw,B0,reduceIte,reduceEqDiff]
 refine je rfl (qi (jb (qi qs (qi (SlN.snap hv470 _ hS492 rfl Reader.RO) (qi (SlF.snap hv474 (Sep.m1 hS492) rfl (fun _=>rfl) (fun _=>rfl)) (qi
   (SlF.snap hv478 (Sep.m2 hS492) rfl (fun _=>rfl) (fun _=>rfl)) qy))))) (qi qs qy)) (qgq
   (fun b hb=>decide_eq_true hb) v465.1 v465.2 v493 hx494) ?_
 simp only [qd,yl,qb,yv,yq,qa,qzd,qf,qe,qn,B0,reduceIte,reduceEqDiff]
 refine qj (v := .agg [.int .i64 v465.1.Generation,v468,v472,v476]) rfl ?_
 obtain ⟨v496,hx497,hF498⟩:=qh hF495
 simp only [qd,qw,B0,reduceIte,reduceEqDiff]
 refine je rfl (qi (jb (qi qs (qi (SlN.snap hv470 _ hS492 rfl Reader.RO) (qi (SlF.snap hv474 (Sep.m1 hS492) rfl (fun _=>rfl) (fun _=>rfl)) (qi
   (SlF.snap hv478 (Sep.m2 hS492) rfl (fun _=>rfl) (fun _=>rfl)) qy))))) (qi qs qy)) (qkm
   (fun b hb=>decide_eq_true hb) v465.1 v465.2 v496 hx497) ?_
 obtain ⟨v499,hx500,hF501⟩:=qh hF498
 simp only [qd,yl,qb,yv,yq,qa,qx9,qf,qe,f464,qw,B0,reduceIte,reduceEqDiff]
 refine xz rfl hS492 (qi ze qy) (qh5 (fun b hb=>decide_eq_true hb) k v_1 v499 hx500) ?_
 rintro _ h514 ⟨v502,c503,v506,c507,v510,c511,rfl,hv504,hv508,hv512,hS515⟩
 refine ⟨_,qbv (qk (qap (qk rfl (qk (SlN.free1 hv504) (qk (SlF.free1 hv508) (qk (SlF.free1 hv512) zl))))) (qk rfl zl)),hS515,
   (z0 (SlN.pf hv504 Reader.RO) (z0 (SlF.pf hv508 (fun _=>rfl)) (z0 (SlF.pf hv512 (fun _=>rfl)) yc))),fun h516 hS517=>?_⟩
 have hS518:Sep h516 (geL h.length) (c503++(c507++(c511++(c469++(c473++(c477++([]))))))):=by simpa only [List.append_assoc,List.nil_append] using hS517
 simp only [qd,yl,qb,yv,yq,ja,B0,reduceIte,reduceEqDiff]
 refine zw hS518 (fun b519 h520 hS521=>?_)
 simp only [zn,B0,reduceIte,reduceEqDiff]
 refine zd (us:=[.int .i64 v499.1.Generation,v502,v506,v510]) rfl (cs':=[.int .i64 v499.1.Generation,v502,v506,
   v510]) hS521 hW rfl (qk rfl (qk (SlN.one hv504) (qk (SlF.one hv508) (qk (SlF.one hv512) zl)))) (Nat.le_of_ble_eq_true rfl) rfl (fun h523 hS524=>?_)
 simp only [qd,qa,B0,reduceIte,reduceEqDiff]
 refine zu hS524 hW (by simp only [B0,reduceIte,reduceEqDiff]) (fun h525 hS526=>?_)
 simp only [zp,qy0,qf,qe,qn,B0,reduceIte,reduceEqDiff]
 refine qj (v := .agg [.int .i64 v499.1.Generation,v502,v506,v510]) rfl ?_
 obtain ⟨v527,hx528,hF529⟩:=qh hF501
 simp only [qd,qw,B0,reduceIte,reduceEqDiff]
 refine je rfl (qi (jb (qi qs (qi (SlN.snap hv504 _ hS526 rfl Reader.RO) (qi (SlF.snap hv508 (Sep.m1 hS526) rfl (fun _=>rfl) (fun _=>rfl)) (qi
   (SlF.snap hv512 (Sep.m2 hS526) rfl (fun _=>rfl) (fun _=>rfl)) qy))))) (qi qs qy)) (qkk
   (fun b hb=>decide_eq_true hb) v499.1 v499.2 v527 hx528) ?_
 simp only [qd,yl,qb,yv,yq,qa,q0c,qf,qe,qn,B0,reduceIte,reduceEqDiff]
 refine qj (v := .agg [.int .i64 v499.1.Generation,v502,v506,v510]) rfl ?_
 obtain ⟨v530,hx531,hF532⟩:=qh hF529
 simp only [qd,qw,B0,reduceIte,reduceEqDiff]
 refine je rfl (qi (jb (qi qs (qi (SlN.snap hv504 _ hS526 rfl Reader.RO) (qi (SlF.snap hv508 (Sep.m1 hS526) rfl (fun _=>rfl) (fun _=>rfl)) (qi
   (SlF.snap hv512 (Sep.m2 hS526) rfl (fun _=>rfl) (fun _=>rfl)) qy))))) (qi qs qy)) (qj2
   (fun b hb=>decide_eq_true hb) v499.1 v499.2 v530 hx531) ?_
 obtain ⟨v533,hx534,hF535⟩:=qh hF532
 simp only [qd,yl,qb,yv,yq,qa,quu,qf,qe,f464,qw,B0,reduceIte,reduceEqDiff]
 refine xz rfl hS526 (qi ze qy) (qgt (fun b hb=>decide_eq_true hb) k v_1 v533 hx534) ?_
 rintro _ h548 ⟨v536,c537,v540,c541,v544,c545,rfl,hv538,hv542,hv546,hS549⟩
 refine ⟨_,qft (qk rfl (qk (SlN.free1 hv538) (qk (SlF.free1 hv542) (qk (SlF.free1 hv546) zl)))),hS549,
   (z0 (SlN.pf hv538 Reader.RO) (z0 (SlF.pf hv542 (fun _=>rfl)) (z0 (SlF.pf hv546 (fun _=>rfl)) yc))),fun h550 hS551=>?_⟩
 have hS552:Sep h550 (geL h.length) (c537++(c541++(c545++(c503++(c507++(c511++(c469++(c473++(c477++([])))))))))):=by simpa only [List.append_assoc,
   List.nil_append] using hS551
 simp only [ja,B0,reduceIte,reduceEqDiff]
 refine zw hS552 (fun b553 h554 hS555=>?_)
 simp only [zn,B0,reduceIte,reduceEqDiff]
 refine zd (us:=[.int .i64 v533.Generation,v536,v540,v544]) rfl (cs':=[.int .i64 v533.Generation,v536,v540,
   v544]) hS555 hW rfl (qk rfl (qk (SlN.one hv538) (qk (SlF.one hv542) (qk (SlF.one hv546) zl)))) (Nat.le_of_ble_eq_true rfl) rfl (fun h557 hS558=>?_)
 simp only [qa,B0,reduceIte,reduceEqDiff]
 refine zu hS558 hW (by simp only [B0,reduceIte,reduceEqDiff]) (fun h559 hS560=>?_)
 simp only [zp,qzb,qf,qe,qn,B0,reduceIte,reduceEqDiff]
 refine qj (v := .agg [.int .i64 v533.Generation,v536,v540,v544]) rfl ?_
 obtain ⟨v561,hx562,hF563⟩:=qh hF535
 simp only [qw,B0,reduceIte,reduceEqDiff]
 refine je rfl (qi (jb (qi qs (qi (SlN.snap hv538 _ hS560 rfl Reader.RO) (qi (SlF.snap hv542 (Sep.m1 hS560) rfl (fun _=>rfl) (fun _=>rfl)) (qi
   (SlF.snap hv546 (Sep.m2 hS560) rfl (fun _=>rfl) (fun _=>rfl)) qy))))) qy) (qik (fun b hb=>decide_eq_true hb) v533 v561 hx562) ?_
 simp only [qd,yl,qb,yv,yq,qa,q0t,qf,qe,qn,B0,reduceIte,reduceEqDiff]
 refine qj (v := .agg [.int .i64 v533.Generation,v536,v540,v544]) rfl ?_
 obtain ⟨v564,hx565,hF566⟩:=qh hF563
 simp only [qw,B0,reduceIte,reduceEqDiff]
 refine je rfl (qi (jb (qi qs (qi (SlN.snap hv538 _ hS560 rfl Reader.RO) (qi (SlF.snap hv542 (Sep.m1 hS560) rfl (fun _=>rfl) (fun _=>rfl)) (qi
   (SlF.snap hv546 (Sep.m2 hS560) rfl (fun _=>rfl) (fun _=>rfl)) qy))))) qy) (qij (fun b hb=>decide_eq_true hb) v533 v564 hx565) ?_
 obtain ⟨v567,hx568,hF569⟩:=qh hF566
 simp only [qd,yl,qb,yv,yq,qa,q09,qf,qe,f464,qw,B0,reduceIte,reduceEqDiff]
 refine xz rfl hS560 (qi ze qy) (qgk (fun b hb=>decide_eq_true hb) k v_1 v567 hx568) ?_
 rintro _ h574 ⟨v570,c571,rfl,hv572,hS575⟩
 refine ⟨_,qbv (qk rfl (qk (qnq (SlF.free1 hv572)) zl)),hS575,(z0 (SlF.pf hv572 (fun _=>rfl)) yc),fun h576 hS577=>?_⟩
 have hS578:Sep h576 (geL h.length) (c571++(c537++(c541++(c545++(c503++(c507++(c511++(c469++(c473++(c477 ++
   ([]))))))))))):=by simpa only [List.append_assoc,List.nil_append] using hS577
 obtain ⟨v579,hx580,hF581⟩:=qh hF569
 simp only [qd,yl,qb,yv,yq,qa,qyd,qf,qe,qw,B0,reduceIte,reduceEqDiff]
 refine je rfl (qi qs (qi (SlF.snap hv572 hS578 rfl (fun _=>rfl) (fun _=>rfl)) qy)) (qil
   (fun b hb=>decide_eq_true hb) v567.1 v567.2 v579 hx580) ?_
 simp only [qd,yl,qb,yv,yq,ja,B0,reduceIte,reduceEqDiff]
 refine zw hS578 (fun b582 h583 hS584=>?_)
 simp only [zn,B0,reduceIte,reduceEqDiff]
 refine zd (us:=[.int .i64 v579.1.Generation,lst Reader.cells v579.1.Readers,lst cI v579.1.Committed,lst cI v579.1.Ends]) rfl (cs':=[.int .i64 v579.1.Generation,
   lst Reader.cells v579.1.Readers,lst cI v579.1.Committed,lst cI v579.1.Ends]) hS584 hW rfl rfl (Nat.le_of_ble_eq_true rfl) rfl (fun h586 hS587=>?_)
 simp only [qd,qa,B0,reduceIte,reduceEqDiff]
 refine zu hS587 hW (by simp only [B0,reduceIte,reduceEqDiff]) (fun h588 hS589=>?_)
 obtain ⟨v590,hx591,hF592⟩:=qh hF581
 simp only [zp,qzz,qf,qe,qd,qw,B0,reduceIte,reduceEqDiff]
 refine xz rfl hS589 (qi qs (qi (SlF.snap hv572 hS589 rfl (fun _=>rfl) (fun _=>rfl)) qy)) (qcz
   (fun b hb=>decide_eq_true hb) k v567.1 v567.2 v590 hx591) ?_
 rintro _ h605 ⟨v593,c594,v597,c598,v601,c602,rfl,hv595,hv599,hv603,hS606⟩
 refine ⟨_,qbv (qk (qap (qk rfl (qk (SlN.free1 hv595) (qk (SlF.free1 hv599) (qk (SlF.free1 hv603) zl))))) (qk rfl zl)),hS606,
   (z0 (SlN.pf hv595 Reader.RO) (z0 (SlF.pf hv599 (fun _=>rfl)) (z0 (SlF.pf hv603 (fun _=>rfl)) yc))),fun h607 hS608=>?_⟩
 have hS609:Sep h607 (geL h.length) (c594++(c598++(c602++(c571++(c537++(c541++(c545++(c503++(c507++(c511++(c469++(c473++(c477 ++
   ([])))))))))))))):=by simpa only [List.append_assoc,List.nil_append] using hS608
 simp only [qd,yl,qb,yv,yq,ja,B0,reduceIte,reduceEqDiff]
 refine zw hS609 (fun b610 h611 hS612=>?_)
 simp only [zn,B0,reduceIte,reduceEqDiff]
 refine zd (us:=[.int .i64 v590.1.Generation,v593,v597,v601]) rfl (cs':=[.int .i64 v590.1.Generation,v593,v597,
   v601]) hS612 hW rfl (qk rfl (qk (SlN.one hv595) (qk (SlF.one hv599) (qk (SlF.one hv603) zl)))) (Nat.le_of_ble_eq_true rfl) rfl (fun h614 hS615=>?_)
 simp only [qd,qa,B0,reduceIte,reduceEqDiff]
 refine zu hS615 hW (by simp only [B0,reduceIte,reduceEqDiff]) (fun h616 hS617=>?_)
 simp only [zp,qv5,qf,qe,qd,qfj,qb,qhs,B0,reduceIte,reduceEqDiff]
 obtain ⟨v621,hx622,hF623⟩:=qh hF592
 refine z4 4 (fun fr' h'=>Sep h' (geL h.length) (c594++(c598++(c602 ++
   ([]))))∧fr' 235 = .bool v621∧fr' 29 = .int .i64 v527.1∧fr' 30 = .bool v527.2∧fr' 31 = .int .i64 v530.1∧fr' 32 = .bool v530.2∧fr' 34 = .int .i64 v561.1∧fr' 35 = .bool v561.2∧fr' 36 = .int .i64 v564.1∧fr' 37 = .bool v564.2∧fr' 40 = .ref [.int .i64 v579.1.Generation,
   lst Reader.cells v579.1.Readers,lst cI v579.1.Committed,lst cI v579.1.Ends] 0∧fr' 41 = .bool v579.2∧fr' 42 = .ref [.int .i64 v590.1.Generation,v593,v597,
   v601] 0∧fr' 43 = .bool v590.2) (fun Q618 hN619=>?_) ?_
 ·simp only [List.take_succ_cons,List.take_zero]
  simp only [qc (g:=231),B0,reduceIte,reduceEqDiff]
  refine q8 (t:=(v493.2 == v496.2)) (fun hg620=>?_) (fun hg620=>?_)
  ·rw [iteT hg620] at hx622
   obtain ⟨v624,hx625,hF626⟩:=qh hx622
   simp only [hg620,qc (g:=231),zf,qd,qw,B0,reduceIte,reduceEqDiff]
   refine je rfl (qi ze (qi ze qy)) (x5 (fun b hb=>decide_eq_true hb) v493.1 v496.1 v624 hx625) ?_
   simp only [hg620,qr,qb,zk,qa,qm,B0,reduceIte,reduceEqDiff]
   have e627:=qg hF626
   exact hN619 _ _ ⟨(Sep.m2 (Sep.m2 (Sep.m2 (Sep.dc (Sep.m3 (Sep.dc (Sep.m3 (Sep.dc (Sep.m3 (Sep.dc (Sep.m3 (Sep.dc (Sep.m3 (Sep.dc (Sep.m3 (Sep.dc (Sep.m3 (Sep.dc (Sep.m3
     (Sep.dc (Sep.m3 (Sep.dc (Sep.m3 hS617))))))))))))))))))))))),by rw [←e627]; simp only [B0,reduceIte,reduceEqDiff],rfl,rfl,rfl,rfl,rfl,rfl,rfl,rfl,rfl,rfl,
     rfl,rfl⟩
  ·rw [iteF hg620] at hx622
   simp only [hg620,qc (g:=231),jh,qr,qb,zj,qa,qm,B0,reduceIte,reduceEqDiff]
   have e628:=qg hx622
   exact hN619 _ _ ⟨(Sep.m2 (Sep.m2 (Sep.m2 (Sep.dc (Sep.m3 (Sep.dc (Sep.m3 (Sep.dc (Sep.m3 (Sep.dc (Sep.m3 (Sep.dc (Sep.m3 (Sep.dc (Sep.m3 (Sep.dc (Sep.m3 (Sep.dc (Sep.m3
     (Sep.dc (Sep.m3 (Sep.dc (Sep.m3 hS617))))))))))))))))))))))),by rw [←e628]; simp only [B0,reduceIte,reduceEqDiff],rfl,rfl,rfl,rfl,rfl,rfl,rfl,rfl,rfl,rfl,
     rfl,rfl⟩
 rintro fr629 h643 ⟨hS644,f630,f631,f632,f633,f634,f635,f636,f637,f638,f639,f640,f641,f642⟩
 simp only [List.drop_succ_cons,List.drop_zero]
 simp only [f630,qd,B0,reduceIte,reduceEqDiff]
 refine z4 4 (fun fr' h'=>Sep h' (geL h.length) (c594++(c598++(c602++([]))))∧fr' 240 = .bool (v621 &&
   (v527.2 == v530.2))∧fr' 29 = .int .i64 v527.1∧fr' 31 = .int .i64 v530.1∧fr' 34 = .int .i64 v561.1∧fr' 35 = .bool v561.2∧fr' 36 = .int .i64 v564.1∧fr' 37 = .bool v564.2∧fr' 40 = .ref [.int .i64 v579.1.Generation,
   lst Reader.cells v579.1.Readers,lst cI v579.1.Committed,lst cI v579.1.Ends] 0∧fr' 41 = .bool v579.2∧fr' 42 = .ref [.int .i64 v590.1.Generation,v593,v597,
   v601] 0∧fr' 43 = .bool v590.2) (fun Q645 hN646=>?_) ?_
 ·simp only [List.take_succ_cons,List.take_zero]
  simp only [qc (g:=236),B0,reduceIte,reduceEqDiff]
  refine q8 (t:=v621) (fun hg647=>?_) (fun hg647=>?_)
  ·simp only [hg647,qc (g:=236),zf,f632,qd,f634,qfj,qb,qhs,qr,zk,qa,qm,B0,reduceIte,reduceEqDiff]
   exact hN646 _ _ ⟨(Sep.m2 (Sep.m2 (Sep.m2 hS644))),by rw [xj hg647]; simp only [B0,reduceIte,reduceEqDiff],f631,f633,f635,f636,f637,f638,f639,f640,f641,f642⟩
  ·simp only [hg647,qc (g:=236),jh,qr,qb,zj,qa,qm,B0,reduceIte,reduceEqDiff]
   exact hN646 _ _ ⟨(Sep.m2 (Sep.m2 (Sep.m2 hS644))),by rw [xy hg647]; simp only [B0,reduceIte,reduceEqDiff],f631,f633,f635,f636,f637,f638,f639,f640,f641,f642⟩
 rintro fr648 h660 ⟨hS661,f649,f650,f651,f652,f653,f654,f655,f656,f657,f658,f659⟩
 simp only [List.drop_succ_cons,List.drop_zero]
 simp only [f649,qd,B0,reduceIte,reduceEqDiff]
 refine z4 4 (fun fr' h'=>Sep h' (geL h.length) (c594++(c598++(c602++([]))))∧fr' 245 = .bool ((v621&&(v527.2 == v530.2))&&(decide
   (v527.1=v530.1)))∧fr' 34 = .int .i64 v561.1∧fr' 35 = .bool v561.2∧fr' 36 = .int .i64 v564.1∧fr' 37 = .bool v564.2∧fr' 40 = .ref [.int .i64 v579.1.Generation,
   lst Reader.cells v579.1.Readers,lst cI v579.1.Committed,lst cI v579.1.Ends] 0∧fr' 41 = .bool v579.2∧fr' 42 = .ref [.int .i64 v590.1.Generation,v593,v597,
   v601] 0∧fr' 43 = .bool v590.2) (fun Q662 hN663=>?_) ?_
 ·simp only [List.take_succ_cons,List.take_zero]
  simp only [qc (g:=241),B0,reduceIte,reduceEqDiff]
  refine q8 (t:=(v621&&(v527.2 == v530.2))) (fun hg664=>?_) (fun hg664=>?_)
  ·simp only [hg664,qc (g:=241),zf,f650,qd,f651,q9,qb,yx,qr,zk,qa,qm,B0,reduceIte,reduceEqDiff]
   exact hN663 _ _ ⟨(Sep.m2 (Sep.m2 (Sep.m2 hS661))),by rw [xj hg664]; simp only [B0,reduceIte,reduceEqDiff],f652,f653,f654,f655,f656,f657,f658,f659⟩
  ·simp only [hg664,qc (g:=241),jh,qr,qb,zj,qa,qm,B0,reduceIte,reduceEqDiff]
   exact hN663 _ _ ⟨(Sep.m2 (Sep.m2 (Sep.m2 hS661))),by rw [xy hg664]; simp only [B0,reduceIte,reduceEqDiff],f652,f653,f654,f655,f656,f657,f658,f659⟩
 rintro fr665 h675 ⟨hS676,f666,f667,f668,f669,f670,f671,f672,f673,f674⟩
 simp only [List.drop_succ_cons,List.drop_zero]
 simp only [f666,qd,B0,reduceIte,reduceEqDiff]
 refine z4 4 (fun fr' h'=>Sep h' (geL h.length) (c594++(c598++(c602++([]))))∧fr' 250 = .bool (((v621&&(v527.2 == v530.2))&&(decide (v527.1=v530.1))) &&
   (v561.2 == v564.2))∧fr' 34 = .int .i64 v561.1∧fr' 36 = .int .i64 v564.1∧fr' 40 = .ref [.int .i64 v579.1.Generation,lst Reader.cells v579.1.Readers,
   lst cI v579.1.Committed,lst cI v579.1.Ends] 0∧fr' 41 = .bool v579.2∧fr' 42 = .ref [.int .i64 v590.1.Generation,v593,v597,
   v601] 0∧fr' 43 = .bool v590.2) (fun Q677 hN678=>?_) ?_
 ·simp only [List.take_succ_cons,List.take_zero]
  simp only [qc (g:=246),B0,reduceIte,reduceEqDiff]
  refine q8 (t:=((v621&&(v527.2 == v530.2))&&(decide (v527.1=v530.1)))) (fun hg679=>?_) (fun hg679=>?_)
  ·simp only [hg679,qc (g:=246),zf,f668,qd,f670,qfj,qb,qhs,qr,zk,qa,qm,B0,reduceIte,reduceEqDiff]
   exact hN678 _ _ ⟨(Sep.m2 (Sep.m2 (Sep.m2 hS676))),by rw [xj hg679]; simp only [B0,reduceIte,reduceEqDiff],f667,f669,f671,f672,f673,f674⟩
  ·simp only [hg679,qc (g:=246),jh,qr,qb,zj,qa,qm,B0,reduceIte,reduceEqDiff]
   exact hN678 _ _ ⟨(Sep.m2 (Sep.m2 (Sep.m2 hS676))),by rw [xy hg679]; simp only [B0,reduceIte,reduceEqDiff],f667,f669,f671,f672,f673,f674⟩
 rintro fr680 h688 ⟨hS689,f681,f682,f683,f684,f685,f686,f687⟩
 simp only [List.drop_succ_cons,List.drop_zero]
 simp only [f681,qd,B0,reduceIte,reduceEqDiff]
 refine z4 4 (fun fr' h'=>Sep h' (geL h.length) (c594++(c598++(c602++([]))))∧fr' 255 = .bool ((((v621&&(v527.2 == v530.2))&&(decide (v527.1=v530.1))) &&
   (v561.2 == v564.2))&&(decide (v561.1=v564.1)))∧fr' 40 = .ref [.int .i64 v579.1.Generation,lst Reader.cells v579.1.Readers,lst cI v579.1.Committed,
   lst cI v579.1.Ends] 0∧fr' 41 = .bool v579.2∧fr' 42 = .ref [.int .i64 v590.1.Generation,v593,v597,v601] 0∧fr' 43 = .bool v590.2) (fun Q690 hN691=>?_) ?_
 ·simp only [List.take_succ_cons,List.take_zero]
  simp only [qc (g:=251),B0,reduceIte,reduceEqDiff]
  refine q8 (t:=(((v621&&(v527.2 == v530.2))&&(decide (v527.1=v530.1)))&&(v561.2 == v564.2))) (fun hg692=>?_) (fun hg692=>?_)
  ·simp only [hg692,qc (g:=251),zf,f682,qd,f683,q9,qb,yx,qr,zk,qa,qm,B0,reduceIte,reduceEqDiff]
   exact hN691 _ _ ⟨(Sep.m2 (Sep.m2 (Sep.m2 hS689))),by rw [xj hg692]; simp only [B0,reduceIte,reduceEqDiff],f684,f685,f686,f687⟩
  ·simp only [hg692,qc (g:=251),jh,qr,qb,zj,qa,qm,B0,reduceIte,reduceEqDiff]
   exact hN691 _ _ ⟨(Sep.m2 (Sep.m2 (Sep.m2 hS689))),by rw [xy hg692]; simp only [B0,reduceIte,reduceEqDiff],f684,f685,f686,f687⟩
 rintro fr693 h699 ⟨hS700,f694,f695,f696,f697,f698⟩
 simp only [List.drop_succ_cons,List.drop_zero]
 simp only [f694,qd,B0,reduceIte,reduceEqDiff]
 refine z4 4 (fun fr' h'=>Sep h' (geL h.length) (c594++(c598++(c602++([]))))∧fr' 260 = .bool (((((v621&&(v527.2 == v530.2))&&(decide (v527.1=v530.1))) &&
   (v561.2 == v564.2))&&(decide (v561.1=v564.1)))&&(v579.2 == v590.2))∧fr' 40 = .ref [.int .i64 v579.1.Generation,lst Reader.cells v579.1.Readers,
   lst cI v579.1.Committed,lst cI v579.1.Ends] 0∧fr' 42 = .ref [.int .i64 v590.1.Generation,v593,v597,v601] 0) (fun Q701 hN702=>?_) ?_
 ·simp only [List.take_succ_cons,List.take_zero]
  simp only [qc (g:=256),B0,reduceIte,reduceEqDiff]
  refine q8 (t:=((((v621&&(v527.2 == v530.2))&&(decide (v527.1=v530.1)))&&(v561.2 == v564.2))&&(decide (v561.1=v564.1)))) (fun hg703=>?_)
    (fun hg703=>?_)
  ·simp only [hg703,qc (g:=256),zf,f696,qd,f698,qfj,qb,qhs,qr,zk,qa,qm,B0,reduceIte,reduceEqDiff]
   exact hN702 _ _ ⟨(Sep.m2 (Sep.m2 (Sep.m2 hS700))),by rw [xj hg703]; simp only [B0,reduceIte,reduceEqDiff],f695,f697⟩
  ·simp only [hg703,qc (g:=256),jh,qr,qb,zj,qa,qm,B0,reduceIte,reduceEqDiff]
   exact hN702 _ _ ⟨(Sep.m2 (Sep.m2 (Sep.m2 hS700))),by rw [xy hg703]; simp only [B0,reduceIte,reduceEqDiff],f695,f697⟩
 rintro fr704 h708 ⟨hS709,f705,f706,f707⟩
 simp only [List.drop_succ_cons,List.drop_zero]
 simp only [f705,qd,B0,reduceIte,reduceEqDiff]
 obtain ⟨v713,hx714,hF715⟩:=qh hF623
 refine z4 4 (fun fr' h'=>Sep h' (geL h.length) ([])∧fr' 265 = .bool v713) (fun Q710 hN711=>?_) ?_
 ·simp only [List.take_succ_cons,List.take_zero]
  simp only [qc (g:=261),B0,reduceIte,reduceEqDiff]
  refine q8 (t:=(((((v621&&(v527.2 == v530.2))&&(decide (v527.1=v530.1)))&&(v561.2 == v564.2))&&(decide (v561.1=v564.1)))&&(v579.2 == v590.2)))
    (fun hg712=>?_) (fun hg712=>?_)
  ·rw [iteT hg712] at hx714
   simp only [hg712,qc (g:=261),zf,f706,qn,B0,reduceIte,reduceEqDiff]
   refine qj (v := .agg [.int .i64 v579.1.Generation,lst Reader.cells v579.1.Readers,lst cI v579.1.Committed,lst cI v579.1.Ends]) rfl ?_
   simp only [hg712,qc (g:=261),zf,f707,qn,B0,reduceIte,reduceEqDiff]
   refine qj (v := .agg [.int .i64 v590.1.Generation,v593,v597,v601]) rfl ?_
   obtain ⟨v716,hx717,hF718⟩:=qh hx714
   simp only [hg712,qc (g:=261),zf,qw,B0,reduceIte,reduceEqDiff]
   refine je rfl (qi (jb (qi qs (qi ze (qi ze (qi ze qy))))) (qi (jb (qi qs (qi
     (SlN.snap hv595 _ hS709 rfl Reader.RO) (qi (SlF.snap hv599 (Sep.m1 hS709) rfl (fun _=>rfl) (fun _=>rfl)) (qi (SlF.snap hv603 (Sep.m2 hS709) rfl (fun _=>rfl)
     (fun _=>rfl)) qy))))) qy)) (qet (fun b hb=>decide_eq_true hb) v579.1 v590.1 v716 hx717) ?_
   simp only [hg712,qr,qb,zk,qa,qm,B0,reduceIte,reduceEqDiff]
   have e719:=qg hF718
   exact hN711 _ _ ⟨(Sep.dc ((Sep.dc ((Sep.dc (hS709)))))),by rw [←e719]; simp only [B0,reduceIte,reduceEqDiff]⟩
  ·rw [iteF hg712] at hx714
   simp only [hg712,qc (g:=261),jh,qr,qb,zj,qa,qm,B0,reduceIte,reduceEqDiff]
   have e720:=qg hx714
   exact hN711 _ _ ⟨(Sep.dc ((Sep.dc ((Sep.dc (hS709)))))),by rw [←e720]; simp only [B0,reduceIte,reduceEqDiff]⟩
 rintro fr721 h723 ⟨hS724,f722⟩
 simp only [List.drop_succ_cons,List.drop_zero]
 simp only [f722,qd,qa,qx,B0,reduceIte,reduceEqDiff]
 have he:=qg hF715
 subst he
 simp only [zi,B0,reduceIte,reduceEqDiff]
 exact rfl
end Go.Proofs.Ytdhibknhejhfaaa.X
