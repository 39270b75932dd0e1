/- The functions' code comes to what the plain functions say (3). -/
import Derived.Test.YtpddolihbnfahaaXBH2
set_option linter.unusedVariables false
set_option linter.unusedSimpArgs false
set_option maxRecDepth 100000
namespace Go.Proofs.Ytpddolihbnfahaa.X
open Go
open Nat (reduceEqDiff)
theorem qg6 {W:Nat→Bool}{h:Heap}{lo:Nat→Prop}{S0:List Obj} (hW:∀ b,
  lo b→W b=true) (k:Nat) (pb0:Nat) (v_0:Election) (pv0_0:XV) (pc0_0:List Obj) (ph0_0:SlN Server.R 6 46 pv0_0 v_0.Servers pc0_0) (pv0_1:XV) (pc0_1:List Obj)
  (ph0_1:SlF Letter.cells 7 93 pv0_1 v_0.Post pc0_1) (pv0_2:XV) (pc0_2:List Obj) (ph0_2:SlF Vote.cells 2 39 pv0_2 v_0.Led pc0_2) (v_1:Letter) (r:Election)
  (hF:xy k v_0 v_1=some r) (hS:Sep h lo ([Blk1 pb0 [pv0_0,pv0_1,pv0_2] 31]++(pc0_0++(pc0_1++(pc0_2++(S0)))))) : Ret E W 96 [.ptr pb0 0,
  .agg [.int .i64 v_1.To,.int .i64 v_1.From,.int .i64 v_1.Term,.bool v_1.Asks,.int .i64 v_1.Last,.int .i64 v_1.Long,
  .bool v_1.Grant]] h (fun v h'=>∃ ic0_0 iv0_1 ic0_1 iv0_2 ic0_2,
  v = .tup []∧SlN Server.R 6 46 pv0_0 r.Servers ic0_0∧SlF Letter.cells 7 93 iv0_1 r.Post ic0_1∧SlF Vote.cells 2 39 iv0_2 r.Led ic0_2∧Sep h' lo ([Blk1 pb0 [pv0_0,iv0_1,
  iv0_2] 31]++(ic0_0++(ic0_1++(ic0_2++(S0)))))):=by
 refine Ret.of (fn:=x96) rfl (Run.of ?_)
 unfold xy at hF
 have zf0:zb [.ptr pb0 0,.agg [.int .i64 v_1.To,.int .i64 v_1.From,.int .i64 v_1.Term,.bool v_1.Asks,.int .i64 v_1.Last,.int .i64 v_1.Long,
   .bool v_1.Grant]] 0 = .ptr pb0 0:=rfl
 have zf1:zb [.ptr pb0 0,.agg [.int .i64 v_1.To,.int .i64 v_1.From,.int .i64 v_1.Term,.bool v_1.Asks,.int .i64 v_1.Last,.int .i64 v_1.Long,
   .bool v_1.Grant]] 1 = .agg [.int .i64 v_1.To,.int .i64 v_1.From,.int .i64 v_1.Term,.bool v_1.Asks,.int .i64 v_1.Last,.int .i64 v_1.Long,.bool v_1.Grant]:=rfl
 generalize zb [.ptr pb0 0,.agg [.int .i64 v_1.To,.int .i64 v_1.From,.int .i64 v_1.Term,.bool v_1.Asks,.int .i64 v_1.Last,.int .i64 v_1.Long,
   .bool v_1.Grant]]=fr0 at zf0 zf1 ⊢
 simp only [x96,qf,qd,yb,zf1,B0,reduceIte,reduceEqDiff]
 refine kg (cs:=[.int .i64 v_1.To,.int .i64 v_1.From,.int .i64 v_1.Term,.bool v_1.Asks,.int .i64 v_1.Last,.int .i64 v_1.Long,
   .bool v_1.Grant]) hS rfl rfl rfl (fun b1 h2 hS3=>?_)
 simp only [qa,B0,reduceIte,reduceEqDiff]
 refine jb hS3 hW (by simp only [B0,reduceIte,reduceEqDiff]) (fun h5 hS6=>?_)
 simp only [z9,qrq,qf,jr,zf0,zw,qk,j7,zo,zx,Nat.reduceAdd,Nat.zero_add,Nat.add_zero,qs,zv,B0,reduceIte,
   reduceEqDiff]
 refine qu (v:=pv0_0) ((zz (Sep.bk _ _ _ hS6)).trans rfl) ?_
 simp only [zx,qk,Nat.reduceAdd,Nat.zero_add,Nat.add_zero,qr,zv,B0,reduceIte,reduceEqDiff]
 refine qu (v := .int .i64 v_1.To) rfl ?_
 obtain ⟨x7,hx8,hF9⟩:=qh hF
 simp only [qdg,B0,reduceIte,reduceEqDiff]
 obtain ⟨b10,hb11⟩:=SlN.isrow ph0_0 (wv hx8)
 refine qu (SlN.ia ph0_0 hb11 hx8) ?_
 simp only [zw,qk,zd,qrw,qf,jr,zx,Nat.reduceAdd,Nat.zero_add,Nat.add_zero,qr,zv,B0,reduceIte,reduceEqDiff]
 refine qu (v := .int .i64 v_1.Term) rfl ?_
 obtain ⟨c12,cs13,os14,hv15,hR16,hS17⟩:=SlG.opn (SlN.toG ph0_0 hb11 Server.RO.len) hx8 jm Server.RO.len (Sep.m1 hS6)
 obtain ⟨v19,c20,v23,c24,hv21,hv25,rfl,rfl⟩:=hR16
 have hS18:=Sep.no2 hS17
 simp only [zw,qk,j7,zo,zx,Nat.reduceAdd,Nat.zero_add,Nat.add_zero,qs,zv,B0,reduceIte,reduceEqDiff]
 refine qu (v := .int .i64 x7.Term) ((SlG.ld (o:=0) hv15 rfl hx8 hS18 (nle rfl)).trans rfl) ?_
 simp only [xw,qk,xj,zd,qyu,za,B0,reduceIte,reduceEqDiff]
 obtain ⟨c27,hv28,hS29⟩:=SlG.cls0 (c:=c12) (os:=c20++(c24)) hv15 rfl hx8 jm (Server.RI (x:=x7) hv21 hv25) (Sep.ni2 (c1:=c20) (c2:=c24) (Sep.m2 (Sep.m2
   (Sep.m2 hS18))))
 have hv30:=SlG.toN hv28
 obtain ⟨s31,hX35,hk36⟩:=qh hF9
 refine uv (t:=(decide (x7.Term<v_1.Term))) (fun fr' h'=>∃ c32,fr' 0 = .ptr pb0 0∧fr' 3 = .ref [.int .i64 v_1.To,.int .i64 v_1.From,.int .i64 v_1.Term,
   .bool v_1.Asks,.int .i64 v_1.Last,.int .i64 v_1.Long,
   .bool v_1.Grant] 0∧fr' 4 = .ptr b10 (v_1.To.toNat*6)∧SlN Server.R 6 46 pv0_0 s31 c32∧Sep h' lo ([Blk1 pb0 [pv0_0,pv0_1,
   pv0_2] 31]++(c32++(pc0_1++(pc0_2++(S0)))))) (fun Q37 hN38 hR39 hE40=>⟨fun hc41=>?_,fun hc41=>?_⟩) ?_
 ·rw [iteT hc41] at hX35
  simp only [q09,jr,zw,qk,zx,Nat.reduceAdd,Nat.zero_add,Nat.add_zero,qr,zv,B0,reduceIte,reduceEqDiff]
  refine qu (v := .int .i64 v_1.Term) rfl ?_
  obtain ⟨c42,cs43,os44,hv45,hR46,hS47⟩:=SlG.opn (SlN.toG hv30 hb11 Server.RO.len) hx8 jm Server.RO.len hS29
  obtain ⟨v49,c50,v53,c54,hv51,hv55,rfl,rfl⟩:=hR46
  have hS48:=Sep.no2 hS47
  simp only [zw,qk,j7,zo,zx,Nat.reduceAdd,Nat.zero_add,Nat.add_zero,qs,zv,B0,reduceIte,reduceEqDiff]
  refine qu (v:=v53) ((SlG.ld (o:=5) hv45 rfl hx8 hS48 (nle rfl)).trans rfl) ?_
  simp only [qa1,evp,B0,reduceIte,reduceEqDiff]
  refine qu (v := .agg [.int .i64 v_1.Term,.int .i64 (-1),.bool false,.bool false,.nil,
    v53]) (qc9 (uz (us:=[.int .i64 v_1.Term]) (vs:=[.int .i64 v_1.Term,.int .i64 0,.bool false,.bool false,.nil,
    .nil]) rfl rfl (nle rfl) rfl rfl (uz (us:=[.int .i64 (-1)]) (vs:=[.int .i64 v_1.Term,.int .i64 (-1),.bool false,.bool false,.nil,
    .nil]) rfl rfl (nle rfl) rfl rfl (uz (us:=[v53]) (vs:=[.int .i64 v_1.Term,.int .i64 (-1),.bool false,.bool false,.nil,
    v53]) (jd (SlF.one hv55)) rfl (nle rfl) (qm (SlF.one hv55) zm) rfl qen)))) ?_
  simp only [j7,qk,zo,qcv,B0,reduceIte,reduceEqDiff]
  refine qi3 (n:=6) (us:=[.int .i64 v_1.Term,.int .i64 (-1),.bool false,.bool false,.nil,v53]) (cs:=[.int .i64 x7.Term,.int .i64 x7.Voted,.bool x7.Stands,
    .bool x7.Leads,v49,v53]) (o:=0) (cs':=[.int .i64 v_1.Term,.int .i64 (-1),.bool false,.bool false,.nil,
    v53]) rfl hv45 rfl hx8 hS48 hW rfl (qm rfl (qm rfl (qm rfl (qm rfl (qm rfl (qm (SlF.one hv55) zm)))))) (nle rfl) rfl (fun c59 h57 hv60 hS58=>?_)
  simp only [zd,qj,B0,reduceIte,reduceEqDiff]
  obtain ⟨c61,hv62,hS63⟩:=SlG.cls (e':=(Server.mk v_1.Term (-1) false false [] x7.Log)) (c:=c59) (os:=[]++(c54)) hv60 rfl hx8 jm (Server.RI (x :=
    (Server.mk v_1.Term (-1) false false [] x7.Log)) SlF.nil hv55) (Sep.ni2 (c1:=[]) (c2:=c54) (S:=(c50++([Blk1 pb0 [pv0_0,pv0_1,
    pv0_2] 31]++(pc0_1++(pc0_2++(S0)))))) ((Sep.m1 (Sep.m2 hS58)) : Sep _ lo (c59++(c54++(c50++([Blk1 pb0 [pv0_0,pv0_1,
    pv0_2] 31]++(pc0_1++(pc0_2++(S0)))))))))
  have hx64:=xd (x':=(Server.mk v_1.Term (-1) false false [] x7.Log)) hx8
  have hv65:=SlG.toN hv62
  have e66:=qi hX35
  subst e66
  exact hN38 _ _ ⟨c61,zf0,rfl,rfl,hv65,(Sep.m3 (Sep.m2 (Sep.m3 (Sep.m3 (Sep.dc (Sep.m1 hS63))))))⟩
 ·rw [iteF hc41] at hX35
  simp only [zc,qj,B0,reduceIte,reduceEqDiff]
  have e67:=qi hX35
  subst e67
  exact hN38 _ _ ⟨c27,zf0,rfl,rfl,hv30,(Sep.m3 (Sep.m2 (Sep.m3 (Sep.m3 hS29))))⟩
 rintro fr68 h69 ⟨c32,f71,f72,f73,hv33,hS70⟩
 unfold qbb at hk36
 simp only [qts,qf,qd,f72,qp,qb,Nat.reduceAdd,Nat.zero_add,Nat.add_zero,qr,ql,B0,reduceIte,reduceEqDiff]
 refine qg (v := .bool v_1.Asks) rfl ?_
 simp only [qa,qzq,za,B0,reduceIte,reduceEqDiff]
 refine q8 (t:=v_1.Asks) (fun hc74=>?_) (fun hc74=>?_)
 ·rw [iteT hc74] at hk36
  simp only [q1a,qf,jr,f72,zx,qk,Nat.reduceAdd,Nat.zero_add,Nat.add_zero,qr,zv,B0,reduceIte,reduceEqDiff]
  refine qu (v := .int .i64 v_1.Term) rfl ?_
  obtain ⟨x75,hx76,hF77⟩:=qh hk36
  obtain ⟨c78,cs79,os80,hv81,hR82,hS83⟩:=SlG.opn (SlN.toG hv33 hb11 Server.RO.len) hx76 jm Server.RO.len (Sep.m1 hS70)
  obtain ⟨v85,c86,v89,c90,hv87,hv91,rfl,rfl⟩:=hR82
  have hS84:=Sep.no2 hS83
  simp only [f73,zw,qk,j7,zo,zx,Nat.reduceAdd,Nat.zero_add,Nat.add_zero,qs,zv,B0,reduceIte,reduceEqDiff]
  refine qu (v := .int .i64 x75.Term) ((SlG.ld (o:=0) hv81 rfl hx76 hS84 (nle rfl)).trans rfl) ?_
  simp only [xw,qk,yo,zw,B0,reduceIte,reduceEqDiff]
  refine qbv 15 (fun fr' h'=>Sep h' lo ([Blk1 pb0 [pv0_0,pv0_1,
    pv0_2] 31]++(c78++(pc0_1++(pc0_2++(c86++(c90++(S0)))))))∧fr' 55 = .bool ((decide (v_1.Term=x75.Term))&&((decide (x75.Voted=(-1)))||(decide
    (x75.Voted=v_1.From))))∧fr' 0 = .ptr pb0 0∧fr' 3 = .ref [.int .i64 v_1.To,.int .i64 v_1.From,.int .i64 v_1.Term,.bool v_1.Asks,.int .i64 v_1.Last,
    .int .i64 v_1.Long,.bool v_1.Grant] 0∧fr' 4 = .ptr b10 (v_1.To.toNat*6)) rfl (fun Q93 hN94=>?_) ?_
  ·simp only [List.take_succ_cons,List.take_zero]
   simp only [qx (g:=40),B0,reduceIte,reduceEqDiff]
   refine kj (t:=(decide (v_1.Term=x75.Term))) (fun hg95=>?_) (fun hg95=>?_)
   ·simp only [hg95,qx (g:=40),kw,f73,zw,qk,j7,zo,zx,Nat.reduceAdd,Nat.zero_add,Nat.add_zero,qs,zv,B0,
     reduceIte,reduceEqDiff]
    refine qu (v := .int .i64 x75.Voted) ((SlG.ld (o:=1) hv81 rfl hx76 hS84 (nle rfl)).trans rfl) ?_
    simp only [hg95,qx (g:=40),kw,xw,qk,yo,zw,B0,reduceIte,reduceEqDiff]
    refine qbv 8 (fun fr' h'=>Sep h' lo ([Blk1 pb0 [pv0_0,pv0_1,
      pv0_2] 31]++(c78++(pc0_1++(pc0_2++(c86++(c90++(S0)))))))∧fr' 54 = .bool ((decide (x75.Voted=(-1)))||(decide
      (x75.Voted=v_1.From)))∧fr' 0 = .ptr pb0 0∧fr' 3 = .ref [.int .i64 v_1.To,.int .i64 v_1.From,.int .i64 v_1.Term,.bool v_1.Asks,.int .i64 v_1.Last,
      .int .i64 v_1.Long,.bool v_1.Grant] 0∧fr' 4 = .ptr b10 (v_1.To.toNat*6)∧fr' 40 = .bool (decide (v_1.Term=x75.Term))) rfl (fun Q96 hN97=>?_) ?_
    ·simp only [List.take_succ_cons,List.take_zero]
     simp only [qx (g:=46),B0,reduceIte,reduceEqDiff]
     refine kj (t:=(decide (x75.Voted=(-1)))) (fun hg98=>?_) (fun hg98=>?_)
     ·simp only [hg98,qx (g:=46),w7,hg95,qx (g:=40),kw,j8,qk,zj,zd,qj,B0,reduceIte,
       reduceEqDiff]
      exact hN97 _ _ ⟨(Sep.m5 (Sep.m4 (Sep.m5 (Sep.m5 (Sep.m2 (Sep.m2 hS84)))))),by rw [orT hg98]; simp only [B0,reduceIte,reduceEqDiff],f71,f72,f73,
        by simp only [hg95,B0,reduceIte,reduceEqDiff]⟩
     ·simp only [hg98,qx (g:=46),zy,f73,zw,qk,j7,zo,zx,Nat.reduceAdd,Nat.zero_add,Nat.add_zero,qs,zv,B0,
       reduceIte,reduceEqDiff]
      refine qu (v := .int .i64 x75.Voted) ((SlG.ld (o:=1) hv81 rfl hx76 hS84 (nle rfl)).trans rfl) ?_
      simp only [hg98,qx (g:=46),zy,f72,zx,qk,Nat.reduceAdd,Nat.zero_add,Nat.add_zero,qr,zv,B0,reduceIte,reduceEqDiff]
      refine qu (v := .int .i64 v_1.From) rfl ?_
      simp only [hg98,qx (g:=46),zy,xw,qk,yo,hg95,qx (g:=40),kw,j8,zi,zd,qj,B0,
        reduceIte,reduceEqDiff]
      exact hN97 _ _ ⟨(Sep.m5 (Sep.m4 (Sep.m5 (Sep.m5 (Sep.m2 (Sep.m2 hS84)))))),by rw [orF hg98]; simp only [B0,reduceIte,reduceEqDiff],f71,f72,f73,
        by simp only [hg95,B0,reduceIte,reduceEqDiff]⟩
    rintro fr99 h105 ⟨hS106,f100,f101,f102,f103,f104⟩
    simp only [List.drop_succ_cons,List.drop_zero]
    simp only [f104,hg95,j8,qk,zj,f100,zd,qj,B0,reduceIte,reduceEqDiff]
    exact hN94 _ _ ⟨(Sep.m5 (Sep.m5 (Sep.m5 (Sep.m5 (Sep.m5 (Sep.m5 hS106)))))),by rw [qba hg95]; simp only [B0,reduceIte,reduceEqDiff],f101,f102,f103⟩
   ·simp only [hg95,qx (g:=40),qdt,qx (g:=46),qok,j8,qk,zi,zd,qj,B0,reduceIte,reduceEqDiff]
    exact hN94 _ _ ⟨(Sep.m5 (Sep.m4 (Sep.m5 (Sep.m5 (Sep.m2 (Sep.m2 hS84)))))),by rw [qbf hg95]; simp only [B0,reduceIte,reduceEqDiff],f71,f72,f73⟩
  rintro fr107 h112 ⟨hS113,f108,f109,f110,f111⟩
  simp only [List.drop_succ_cons,List.drop_zero]
  simp only [f108,zw,qk,B0,reduceIte,reduceEqDiff]
  simp only [qx (g:=56),B0,reduceIte,reduceEqDiff]
  refine kj (t:=((decide (v_1.Term=x75.Term))&&((decide (x75.Voted=(-1)))||(decide (x75.Voted=v_1.From))))) (fun hg114=>?_) (fun hg114=>?_)
  ·rw [iteT hg114] at hF77
   simp only [hg114,qx (g:=56),kw,f110,zx,qk,Nat.reduceAdd,Nat.zero_add,Nat.add_zero,qr,zv,B0,reduceIte,reduceEqDiff]
   refine qu (v := .int .i64 v_1.Last) rfl ?_
   simp only [hg114,qx (g:=56),kw,f110,zx,qk,Nat.reduceAdd,Nat.zero_add,Nat.add_zero,qr,zv,B0,reduceIte,reduceEqDiff]
   refine qu (v := .int .i64 v_1.Long) rfl ?_
   simp only [hg114,qx (g:=56),kw,f111,zw,qk,j7,zo,zx,Nat.reduceAdd,Nat.zero_add,Nat.add_zero,qs,zv,B0,
     reduceIte,reduceEqDiff]
   refine qu (v:=v89) ((SlG.ld (o:=5) hv81 rfl hx76 (Sep.m1 hS113) (nle rfl)).trans rfl) ?_
   obtain ⟨v115,hx116,hF117⟩:=qh hF77
   simp only [hg114,qx (g:=56),kw,ut,B0,reduceIte,reduceEqDiff]
   refine qgs rfl (qo zf (qo zf (qo (SlF.snap hv91 (Sep.m5 hS113) rfl (fun _=>rfl) (fun _=>rfl)) zh))) (qf6
     (fun b hb=>decide_eq_true hb) v_1.Last v_1.Long x75.Log v115 hx116) ?_
   simp only [hg114,j8,qk,zj,zw,zd,qo0,qf,qd,qe,qa,qo3,za,B0,reduceIte,reduceEqDiff]
   obtain ⟨c118,hv119,hS120⟩:=SlG.cls0 (c:=c78) (os:=c86++(c90)) hv81 rfl hx76 jm (Server.RI (x:=x75) hv87 hv91) (Sep.ni2 (c1:=c86) (c2:=c90) (Sep.m3
     (Sep.m5 (Sep.m5 hS113))))
   have hv121:=SlG.toN hv119
   obtain ⟨s122,hX126,hk127⟩:=qh hF117
   refine uv (t:=v115) (fun fr' h'=>∃ c123,fr' 0 = .ptr pb0 0∧fr' 3 = .ref [.int .i64 v_1.To,.int .i64 v_1.From,.int .i64 v_1.Term,.bool v_1.Asks,
     .int .i64 v_1.Last,.int .i64 v_1.Long,
     .bool v_1.Grant] 0∧fr' 4 = .ptr b10 (v_1.To.toNat*6)∧fr' 5 = .bool v115∧SlN Server.R 6 46 pv0_0 s122 c123∧Sep h' lo ([Blk1 pb0 [pv0_0,pv0_1,
     pv0_2] 31]++(c123++(pc0_1++(pc0_2++(S0)))))) (fun Q128 hN129 hR130 hE131=>⟨fun hc132=>?_,fun hc132=>?_⟩) ?_
   ·rw [iteT hc132] at hX126
    simp only [qwp,qd,f111,qe,f110,qp,qb,Nat.reduceAdd,Nat.zero_add,Nat.add_zero,qr,ql,B0,reduceIte,reduceEqDiff]
    refine qg (v := .int .i64 v_1.From) rfl ?_
    obtain ⟨c135,cs136,os137,hv138,hR139,hS140⟩:=SlG.opn (SlN.toG hv121 hb11 Server.RO.len) hx76 jm Server.RO.len hS120
    obtain ⟨v142,c143,v146,c147,hv144,hv148,rfl,rfl⟩:=hR139
    have hS141:=Sep.no2 hS140
    simp only [yx,qb,zo,qp,Nat.reduceAdd,Nat.zero_add,Nat.add_zero,qs,zg,B0,reduceIte,reduceEqDiff]
    refine yi (n:=6) (us:=[.int .i64 v_1.From]) (cs:=[.int .i64 x75.Term,.int .i64 x75.Voted,.bool x75.Stands,.bool x75.Leads,v142,
      v146]) (o:=1) (cs':=[.int .i64 x75.Term,.int .i64 v_1.From,.bool x75.Stands,.bool x75.Leads,v142,
      v146]) rfl hv138 rfl hx76 hS141 hW rfl rfl (nle rfl) rfl (fun c150 h133 hv151 hS134=>?_)
    simp only [qa,qj,B0,reduceIte,reduceEqDiff]
    obtain ⟨c152,hv153,hS154⟩:=SlG.cls (e':=(Server.mk x75.Term v_1.From x75.Stands x75.Leads x75.Got x75.Log)) (c:=c150) (os:=c143++(c147)) hv151 rfl hx76 jm
      (Server.RI (x:=(Server.mk x75.Term v_1.From x75.Stands x75.Leads x75.Got x75.Log)) hv144 hv148) (Sep.ni2 (c1:=c143) (c2:=c147) (Sep.m2 (Sep.m2 (Sep.m2 hS134))))
    have hx155:=xd (x':=(Server.mk x75.Term v_1.From x75.Stands x75.Leads x75.Got x75.Log)) hx76
    have hv156:=SlG.toN hv153
    have e157:=qi hX126
    subst e157
    exact hN129 _ _ ⟨c152,f109,f110,f111,rfl,hv156,(Sep.m3 (Sep.m2 (Sep.m3 (Sep.m3 hS154))))⟩
   ·rw [iteF hc132] at hX126
    simp only [zc,qj,B0,reduceIte,reduceEqDiff]
    have e158:=qi hX126
    subst e158
    exact hN129 _ _ ⟨c118,f109,f110,f111,rfl,hv121,(Sep.m3 (Sep.m2 (Sep.m3 (Sep.m3 hS120))))⟩
   rintro fr159 h160 ⟨c123,f162,f163,f164,f165,hv124,hS161⟩
   unfold x5 at hk127
   simp only [qo9,qf,jr,f162,qfd,qk,zw,j7,zo,zx,Nat.reduceAdd,Nat.zero_add,Nat.add_zero,qs,zv,B0,reduceIte,
     reduceEqDiff]
   refine qu (v:=pv0_1) ((zz (Sep.bk _ _ _ hS161)).trans rfl) ?_
   simp only [f163,zx,qk,Nat.reduceAdd,Nat.zero_add,Nat.add_zero,qr,zv,B0,reduceIte,reduceEqDiff]
   refine qu (v := .int .i64 v_1.From) rfl ?_
   simp only [f163,zx,qk,Nat.reduceAdd,Nat.zero_add,Nat.add_zero,qr,zv,B0,reduceIte,reduceEqDiff]
   refine qu (v := .int .i64 v_1.To) rfl ?_
   obtain ⟨x166,hx167,hF168⟩:=qh hk127
   obtain ⟨c169,cs170,os171,hv172,hR173,hS174⟩:=SlG.opn (SlN.toG hv124 hb11 Server.RO.len) hx167 jm Server.RO.len (Sep.m1 hS161)
   obtain ⟨v176,c177,v180,c181,hv178,hv182,rfl,rfl⟩:=hR173
   have hS175:=Sep.no2 hS174
   simp only [f164,zw,qk,j7,zo,zx,Nat.reduceAdd,Nat.zero_add,Nat.add_zero,qs,zv,B0,reduceIte,reduceEqDiff]
   refine qu (v := .int .i64 x166.Term) ((SlG.ld (o:=0) hv172 rfl hx167 hS175 (nle rfl)).trans rfl) ?_
   simp only [f165,zw,qk,qa1,evp,B0,reduceIte,reduceEqDiff]
   refine qu (v := .agg [.int .i64 v_1.From,.int .i64 v_1.To,.int .i64 x166.Term,.bool false,.int .i64 0,.int .i64 0,.bool v115]) rfl ?_
   simp only [wt,evp,B0,reduceIte,reduceEqDiff]
   refine qdd (n:=7) (f:=Letter.cells) [(Letter.mk v_1.From v_1.To x166.Term false 0 0 v115)] hS175 rfl rfl (fun v184 c185 h186 hv187 hS188=>?_)
   simp only [qcr,B0,reduceIte,reduceEqDiff]
   obtain ⟨l190,hx191,hF192⟩:=qh hF168
   refine yz (f:=Letter.cells) ph0_1 (Sep.m5 hS188) hW (fun _=>rfl) (fun _=>rfl) (SlF.first hv187 hS188 (fun _=>rfl)) hx191
     (fun v193 c194 h195 hv196 hS197=>?_)
   simp only [j7,qk,zo,zx,Nat.reduceAdd,Nat.zero_add,Nat.add_zero,qs,qcv,B0,reduceIte,reduceEqDiff]
   refine xe (us:=[v193]) (jd (SlF.one hv196)) (cs':=[pv0_0,v193,
     pv0_2]) (Sep.m5 hS197) hW rfl (qm (SlF.one hv196) zm) (nle rfl) rfl (fun h199 hS200=>?_)
   simp only [zd,q9,B0,reduceIte,reduceEqDiff]
   obtain ⟨c201,hv202,hS203⟩:=SlG.cls0 (c:=c169) (os:=c177++(c181)) hv172 rfl hx167 jm (Server.RI (x:=x166) hv178 hv182) (Sep.ni2 (c1:=c177) (c2:=c181)
     (Sep.m5 (Sep.m5 (Sep.m5 hS200))))
   have hv204:=SlG.toN hv202
   have he:=qi hF192
   subst he
   simp only [qlg,B0,reduceIte,reduceEqDiff]
   exact ⟨c201,v193,c194,pv0_2,pc0_2,by first | trivial | rfl,hv204,hv196,ph0_2,(Sep.m3 (Sep.m2 (Sep.m3 (Sep.m3 (Sep.dc (Sep.m3 hS203))))))⟩
  rw [iteF hg114] at hF77
  simp only [hg114,qx (g:=56),qdt,j8,qk,zi,zw,zd,qo0,qf,qd,qe,qa,qo3,za,
    qjh,zc,qo9,jr,f109,qfd,j7,zo,zx,Nat.reduceAdd,Nat.zero_add,Nat.add_zero,qs,zv,B0,reduceIte,reduceEqDiff]
  refine qu (v:=pv0_1) ((zz (Sep.bk _ _ _ hS113)).trans rfl) ?_
  simp only [f110,zx,qk,Nat.reduceAdd,Nat.zero_add,Nat.add_zero,qr,zv,B0,reduceIte,reduceEqDiff]
  refine qu (v := .int .i64 v_1.From) rfl ?_
  simp only [f110,zx,qk,Nat.reduceAdd,Nat.zero_add,Nat.add_zero,qr,zv,B0,reduceIte,reduceEqDiff]
  refine qu (v := .int .i64 v_1.To) rfl ?_
  simp only [f111,zw,qk,j7,zo,zx,Nat.reduceAdd,Nat.zero_add,Nat.add_zero,qs,zv,B0,reduceIte,reduceEqDiff]
  refine qu (v := .int .i64 x75.Term) ((SlG.ld (o:=0) hv81 rfl hx76 (Sep.m1 hS113) (nle rfl)).trans rfl) ?_
  simp only [zw,qk,qa1,evp,B0,reduceIte,reduceEqDiff]
  refine qu (v := .agg [.int .i64 v_1.From,.int .i64 v_1.To,.int .i64 x75.Term,.bool false,.int .i64 0,.int .i64 0,.bool false]) rfl ?_
  simp only [wt,evp,B0,reduceIte,reduceEqDiff]
  refine yy (n:=7) (f:=Letter.cells) [(Letter.mk v_1.From v_1.To x75.Term false 0 0 false)] hS113 rfl rfl (fun v207 c208 h209 hv210 hS211 hq206=>?_)
  simp only [qcr,B0,reduceIte,reduceEqDiff]
  obtain ⟨l213,hx214,hF215⟩:=qh hF77
  refine yz (f:=Letter.cells) ph0_1 (Sep.m3 hS211) hW (fun _=>rfl) (fun _=>rfl) (SlF.first hv210 hS211 (fun _=>rfl)) hx214 (fun v216 c217 h218 hv219 hS220=>?_)
  simp only [j7,qk,zo,zx,Nat.reduceAdd,Nat.zero_add,Nat.add_zero,qs,qcv,B0,reduceIte,reduceEqDiff]
  refine xe (us:=[v216]) (jd (SlF.one hv219)) (cs':=[pv0_0,v216,
    pv0_2]) (Sep.m2 hS220) hW rfl (qm (SlF.one hv219) zm) (nle rfl) rfl (fun h222 hS223=>?_)
  simp only [zd,q9,B0,reduceIte,reduceEqDiff]
  obtain ⟨c224,hv225,hS226⟩:=SlG.cls0 (c:=c78) (os:=c86++(c90)) hv81 rfl hx76 jm (Server.RI (x:=x75) hv87 hv91) (Sep.ni2 (c1:=c86) (c2:=c90) (Sep.m5 (Sep.m6
    (Sep.m6 hS223))))
  have hv227:=SlG.toN hv225
  have he:=qi hF215
  subst he
  simp only [qlg,B0,reduceIte,reduceEqDiff]
  exact ⟨c224,v216,c217,pv0_2,pc0_2,by first | trivial | rfl,hv227,hv219,ph0_2,(Sep.m3 (Sep.m2 (Sep.m3 (Sep.m3 (Sep.dc (Sep.m3 hS226))))))⟩
 rw [iteF hc74] at hk36
 simp only [zc,qui,qf,jr,f72,zx,qk,Nat.reduceAdd,Nat.zero_add,Nat.add_zero,qr,zv,B0,reduceIte,reduceEqDiff]
 refine qu (v := .bool v_1.Grant) rfl ?_
 simp only [zw,qk,B0,reduceIte,reduceEqDiff]
 obtain ⟨v231,hx232,hF233⟩:=qh hk36
 refine qbv 8 (fun fr' h'=>Sep h' lo ([Blk1 pb0 [pv0_0,pv0_1,
   pv0_2] 31]++(c32++(pc0_1++(pc0_2++(S0)))))∧fr' 102 = .bool v231∧fr' 0 = .ptr pb0 0∧fr' 3 = .ref [.int .i64 v_1.To,.int .i64 v_1.From,.int .i64 v_1.Term,
   .bool v_1.Asks,.int .i64 v_1.Last,.int .i64 v_1.Long,.bool v_1.Grant] 0∧fr' 4 = .ptr b10 (v_1.To.toNat*6)) rfl (fun Q228 hN229=>?_) ?_
 ·simp only [List.take_succ_cons,List.take_zero]
  simp only [qx (g:=94),B0,reduceIte,reduceEqDiff]
  refine kj (t:=v_1.Grant) (fun hg230=>?_) (fun hg230=>?_)
  ·rw [iteT hg230] at hx232
   simp only [hg230,qx (g:=94),kw,f72,zx,qk,Nat.reduceAdd,Nat.zero_add,Nat.add_zero,qr,zv,B0,reduceIte,reduceEqDiff]
   refine qu (v := .int .i64 v_1.Term) rfl ?_
   obtain ⟨x234,hx235,hF236⟩:=qh hx232
   obtain ⟨c237,cs238,os239,hv240,hR241,hS242⟩:=SlG.opn (SlN.toG hv33 hb11 Server.RO.len) hx235 jm Server.RO.len (Sep.m1 hS70)
   obtain ⟨v244,c245,v248,c249,hv246,hv250,rfl,rfl⟩:=hR241
   have hS243:=Sep.no2 hS242
   simp only [hg230,qx (g:=94),kw,f73,zw,qk,j7,zo,zx,Nat.reduceAdd,Nat.zero_add,Nat.add_zero,qs,zv,B0,
     reduceIte,reduceEqDiff]
   refine qu (v := .int .i64 x234.Term) ((SlG.ld (o:=0) hv240 rfl hx235 hS243 (nle rfl)).trans rfl) ?_
   simp only [hg230,qx (g:=94),kw,xw,qk,yo,j8,zj,zd,qj,B0,reduceIte,reduceEqDiff]
   have e252:=qi hF236
   exact hN229 _ _ ⟨(Sep.m3 (Sep.m3 (Sep.m3 (Sep.m3 hS70)))),by rw [←e252]; simp only [B0,reduceIte,reduceEqDiff],f71,by simp only [f72,B0,reduceIte,reduceEqDiff,
     hg230],f73⟩
  ·rw [iteF hg230] at hx232
   simp only [hg230,qx (g:=94),qdt,j8,qk,zi,zd,qj,B0,reduceIte,reduceEqDiff]
   have e253:=qi hx232
   exact hN229 _ _ ⟨(Sep.m3 (Sep.m3 (Sep.m3 (Sep.m3 hS70)))),by rw [←e253]; simp only [B0,reduceIte,reduceEqDiff],f71,by simp only [f72,B0,reduceIte,reduceEqDiff,
     hg230],f73⟩
 rintro fr254 h259 ⟨hS260,f255,f256,f257,f258⟩
 simp only [List.drop_succ_cons,List.drop_zero]
 simp only [f255,zw,qk,B0,reduceIte,reduceEqDiff]
 obtain ⟨v264,hx265,hF266⟩:=qh hF233
 refine qbv 5 (fun fr' h'=>Sep h' lo ([Blk1 pb0 [pv0_0,pv0_1,
   pv0_2] 31]++(c32++(pc0_1++(pc0_2++(S0)))))∧fr' 108 = .bool v264∧fr' 0 = .ptr pb0 0∧fr' 3 = .ref [.int .i64 v_1.To,.int .i64 v_1.From,.int .i64 v_1.Term,
   .bool v_1.Asks,.int .i64 v_1.Last,.int .i64 v_1.Long,.bool v_1.Grant] 0∧fr' 4 = .ptr b10 (v_1.To.toNat*6)) rfl (fun Q261 hN262=>?_) ?_
 ·simp only [List.take_succ_cons,List.take_zero]
  simp only [qx (g:=103),B0,reduceIte,reduceEqDiff]
  refine kj (t:=v231) (fun hg263=>?_) (fun hg263=>?_)
  ·rw [iteT hg263] at hx265
   obtain ⟨x267,hx268,hF269⟩:=qh hx265
   obtain ⟨c270,cs271,os272,hv273,hR274,hS275⟩:=SlG.opn (SlN.toG hv33 hb11 Server.RO.len) hx268 jm Server.RO.len (Sep.m1 hS260)
   obtain ⟨v277,c278,v281,c282,hv279,hv283,rfl,rfl⟩:=hR274
   have hS276:=Sep.no2 hS275
   simp only [hg263,qx (g:=103),kw,f258,zw,qk,j7,zo,zx,Nat.reduceAdd,Nat.zero_add,Nat.add_zero,qs,zv,B0,
     reduceIte,reduceEqDiff]
   refine qu (v := .bool x267.Stands) ((SlG.ld (o:=2) hv273 rfl hx268 hS276 (nle rfl)).trans rfl) ?_
   simp only [hg263,j8,qk,zj,zd,qj,B0,reduceIte,reduceEqDiff]
   have e285:=qi hF269
   exact hN262 _ _ ⟨(Sep.m3 (Sep.m3 (Sep.m3 (Sep.m3 hS260)))),by rw [←e285]; simp only [B0,reduceIte,reduceEqDiff],f256,f257,f258⟩
  ·rw [iteF hg263] at hx265
   simp only [hg263,qx (g:=103),qdt,j8,qk,zi,zd,qj,B0,reduceIte,reduceEqDiff]
   have e286:=qi hx265
   exact hN262 _ _ ⟨(Sep.m3 (Sep.m3 (Sep.m3 (Sep.m3 hS260)))),by rw [←e286]; simp only [B0,reduceIte,reduceEqDiff],f256,f257,f258⟩
 rintro fr287 h292 ⟨hS293,f288,f289,f290,f291⟩
 simp only [List.drop_succ_cons,List.drop_zero]
 simp only [zd,qqo,f288,za,B0,reduceIte,reduceEqDiff]
 refine q8 (t:=v264) (fun hc294=>?_) (fun hc294=>?_)
 ·rw [iteT hc294] at hF266
  obtain ⟨x295,hx296,hF297⟩:=qh hF266
  obtain ⟨c298,cs299,os300,hv301,hR302,hS303⟩:=SlG.opn (SlN.toG hv33 hb11 Server.RO.len) hx296 jm Server.RO.len (Sep.m1 hS293)
  obtain ⟨v305,c306,v309,c310,hv307,hv311,rfl,rfl⟩:=hR302
  have hS304:=Sep.no2 hS303
  simp only [qud,qf,jr,f291,zw,qk,j7,zo,zx,Nat.reduceAdd,Nat.zero_add,Nat.add_zero,qs,zv,B0,reduceIte,reduceEqDiff]
  refine qu (v:=v305) ((SlG.ld (o:=4) hv301 rfl hx296 hS304 (nle rfl)).trans rfl) ?_
  simp only [f290,zx,qk,Nat.reduceAdd,Nat.zero_add,Nat.add_zero,qr,zv,B0,reduceIte,reduceEqDiff]
  refine qu (v := .int .i64 v_1.From) rfl ?_
  obtain ⟨v313,hx314,hF315⟩:=qh hF297
  simp only [ut,B0,reduceIte,reduceEqDiff]
  refine qgs rfl (qo (SlF.snap hv307 (Sep.m1 hS304) rfl (fun _=>rfl) (fun _=>rfl)) (qo zf zh)) (qff
    (fun b hb=>decide_eq_true hb) k x295.Got v_1.From v313 hx314) ?_
  simp only [zw,qk,quu,qbt,qbu,zd,qrg,qf,qd,qe,js,qb,ki,qa,qqu,za,B0,reduceIte,
    reduceEqDiff]
  refine q8 (t:=(!v313.2)) (fun hc316=>?_) (fun hc316=>?_)
  ·rw [iteT hc316] at hF315
   simp only [q0m,jr,f291,qfd,qk,zw,j7,zo,zx,Nat.reduceAdd,Nat.zero_add,Nat.add_zero,qs,zv,B0,reduceIte,reduceEqDiff]
   refine qu (v:=v305) ((SlG.ld (o:=4) hv301 rfl hx296 hS304 (nle rfl)).trans rfl) ?_
   simp only [zw,qk,f290,zx,Nat.reduceAdd,Nat.zero_add,Nat.add_zero,qr,zv,B0,reduceIte,reduceEqDiff]
   refine qu (v := .int .i64 v_1.From) rfl ?_
   simp only [wt,evp,B0,reduceIte,reduceEqDiff]
   refine yy (n:=1) (f:=cI) [v_1.From] hS304 rfl rfl (fun v318 c319 h320 hv321 hS322 hq317=>?_)
   obtain ⟨v324,hx325,hF326⟩:=qh hF315
   simp only [ut,B0,reduceIte,reduceEqDiff]
   refine qsq rfl (qhq hW v305 c306 x295.Got hv307 v313.1 v318 c319 [v_1.From] hv321 v324 hx325 (Sep.m2 hS322)) ?_
   rintro v327 h333 ⟨_,c328,c331,rfl,hv329,hv332,hS334⟩
   simp only [j7,qk,zo,zx,Nat.reduceAdd,Nat.zero_add,Nat.add_zero,qs,qcv,B0,reduceIte,reduceEqDiff]
   refine qi3 (n:=6) (us:=[v327]) (cs:=[.int .i64 x295.Term,.int .i64 x295.Voted,.bool x295.Stands,.bool x295.Leads,v305,
     v309]) (o:=4) (cs':=[.int .i64 x295.Term,.int .i64 x295.Voted,.bool x295.Stands,.bool x295.Leads,v327,
     v309]) (jd (SlF.one hv329)) hv301 rfl hx296 (Sep.m2 hS334) hW rfl (qm (SlF.one hv329) zm) (nle rfl) rfl (fun c337 h335 hv338 hS336=>?_)
   simp only [zd,ql6,qd,f289,qe,f290,qp,qb,Nat.reduceAdd,Nat.zero_add,Nat.add_zero,qr,ql,B0,reduceIte,reduceEqDiff]
   refine qg (v := .int .i64 v_1.To) rfl ?_
   obtain ⟨c339,hv340,hS341⟩:=SlG.cls (e':=(Server.mk x295.Term x295.Voted x295.Stands x295.Leads v324.1 x295.Log)) (c:=c337) (os:=c328 ++
     (c310)) hv338 rfl hx296 jm (Server.RI (x:=(Server.mk x295.Term x295.Voted x295.Stands x295.Leads v324.1 x295.Log)) hv329 hv311) (Sep.ni2 (c1:=c328) (c2:=c310)
     (Sep.m2 (Sep.m2 (Sep.m3 hS336))))
   have hx342:=xd (x':=(Server.mk x295.Term x295.Voted x295.Stands x295.Leads v324.1 x295.Log)) hx296
   have hv343:=SlG.toN hv340
   obtain ⟨v344,hx345,hF346⟩:=qh hF326
   simp only [qz,B0,reduceIte,reduceEqDiff]
   refine kq rfl (qbq hW pb0 (Election.mk (List.set s31 v_1.To.toNat
     (Server.mk x295.Term x295.Voted x295.Stands x295.Leads v324.1 x295.Log)) v_0.Post v_0.Led) pv0_0 c339 hv343 pv0_1 pc0_1 ph0_1 pv0_2 pc0_2 ph0_2 v_1.To v344 hx345
     (Sep.m4 (Sep.m2 (Sep.m4 (Sep.m4 hS341))))) ?_
   rintro _ h355 ⟨c347,c349,v351,c352,rfl,hv348,hv350,hv353,hS356⟩
   simp only [qa,qj,B0,reduceIte,reduceEqDiff]
   have he:=qi hF346
   subst he
   simp only [qfl,B0,reduceIte,reduceEqDiff]
   exact ⟨c347,pv0_1,c349,v351,c352,by first | trivial | rfl,hv348,hv350,hv353,(Sep.m3 (Sep.m3 (Sep.m3 (Sep.m3 (Sep.dc (Sep.m4 hS356))))))⟩
  rw [iteF hc316] at hF315
  simp only [zc,ql6,qd,f289,qe,f290,qp,qb,Nat.reduceAdd,Nat.zero_add,Nat.add_zero,qr,ql,B0,reduceIte,reduceEqDiff]
  refine qg (v := .int .i64 v_1.To) rfl ?_
  obtain ⟨c357,hv358,hS359⟩:=SlG.cls0 (c:=c298) (os:=c306++(c310)) hv301 rfl hx296 jm (Server.RI (x:=x295) hv307 hv311) (Sep.ni2 (c1:=c306) (c2:=c310)
    (Sep.m2 (Sep.m2 (Sep.m2 hS304))))
  have hv360:=SlG.toN hv358
  obtain ⟨v361,hx362,hF363⟩:=qh hF315
  simp only [qz,B0,reduceIte,reduceEqDiff]
  refine kq rfl (qbq hW pb0 (Election.mk s31 v_0.Post v_0.Led) pv0_0 c357 hv360 pv0_1 pc0_1 ph0_1 pv0_2 pc0_2 ph0_2 v_1.To v361 hx362 (Sep.m3 (Sep.m2
    (Sep.m3 (Sep.m3 hS359))))) ?_
  rintro _ h372 ⟨c364,c366,v368,c369,rfl,hv365,hv367,hv370,hS373⟩
  simp only [qa,qj,B0,reduceIte,reduceEqDiff]
  have he:=qi hF363
  subst he
  simp only [qfl,B0,reduceIte,reduceEqDiff]
  exact ⟨c364,pv0_1,c366,v368,c369,by first | trivial | rfl,hv365,hv367,hv370,(Sep.m3 (Sep.m3 (Sep.m3 (Sep.m3 hS373))))⟩
 rw [iteF hc294] at hF266
 simp only [zc,qj,B0,reduceIte,reduceEqDiff]
 have he:=qi hF266
 subst he
 simp only [qfl,B0,reduceIte,reduceEqDiff]
 exact ⟨c32,pv0_1,pc0_1,pv0_2,pc0_2,by first | trivial | rfl,hv33,ph0_1,ph0_2,(Sep.m3 (Sep.m3 (Sep.m3 (Sep.m3 hS293))))⟩
end Go.Proofs.Ytpddolihbnfahaa.X
namespace Go.Proofs.Ytpddolihbnfahaa.X
open Go
open Nat (reduceEqDiff)
theorem qg4 {W:Nat→Bool}{h:Heap} (hW:∀ b,
  (geL h.length) b→W b=true) (k:Nat) (v_0:Election) (v_1:ElectStep) (r:Election × Bool)
  (hF:wn k v_0 v_1=some r) : Ret E W 50 [.agg [lst Server.cells v_0.Servers,lst Letter.cells v_0.Post,lst Vote.cells v_0.Led],.agg [.int .i64 v_1.Term,
  .int .i64 v_1.Leader]] h (fun v h'=>∃ rv0_0 rc0_0 rv0_1 rc0_1 rv0_2 rc0_2,v = .tup [.agg [rv0_0,rv0_1,rv0_2],
  .bool r.2]∧SlN Server.R 6 46 rv0_0 r.1.Servers rc0_0∧SlF Letter.cells 7 93 rv0_1 r.1.Post rc0_1∧SlF Vote.cells 2 39 rv0_2 r.1.Led rc0_2∧Sep h' (geL h.length)
  (rc0_0++(rc0_1++(rc0_2++([]))))):=by
 refine Ret.of (fn:=x50) rfl (Run.of ?_)
 unfold wn at hF
 have zf0:zb [.agg [lst Server.cells v_0.Servers,lst Letter.cells v_0.Post,lst Vote.cells v_0.Led],.agg [.int .i64 v_1.Term,
   .int .i64 v_1.Leader]] 0 = .agg [lst Server.cells v_0.Servers,lst Letter.cells v_0.Post,lst Vote.cells v_0.Led]:=rfl
 have zf1:zb [.agg [lst Server.cells v_0.Servers,lst Letter.cells v_0.Post,lst Vote.cells v_0.Led],.agg [.int .i64 v_1.Term,
   .int .i64 v_1.Leader]] 1 = .agg [.int .i64 v_1.Term,.int .i64 v_1.Leader]:=rfl
 generalize zb [.agg [lst Server.cells v_0.Servers,lst Letter.cells v_0.Post,lst Vote.cells v_0.Led],.agg [.int .i64 v_1.Term,.int .i64 v_1.Leader]]=fr0 at zf0 zf1 ⊢
 have hS:Sep h (geL h.length) []:=Sep.nil h
 simp only [x50,qf,qd,yb,zf0,B0,reduceIte,reduceEqDiff]
 refine kg (cs:=[lst Server.cells v_0.Servers,lst Letter.cells v_0.Post,lst Vote.cells v_0.Led]) hS rfl rfl rfl (fun b1 h2 hS3=>?_)
 simp only [yb,zf1,B0,reduceIte,reduceEqDiff]
 refine kg (cs:=[.int .i64 v_1.Term,.int .i64 v_1.Leader]) hS3 rfl rfl rfl (fun b5 h6 hS7=>?_)
 simp only [jj,B0,reduceIte,reduceEqDiff]
 refine z8 hS7 (fun b9 h10 hS11=>?_)
 simp only [qe,qa,B0,reduceIte,reduceEqDiff]
 refine jb (Sep.m2 hS11) hW (by simp only [B0,reduceIte,reduceEqDiff]) (fun h13 hS14=>?_)
 refine jb (Sep.m1 hS14) hW (by simp only [B0,reduceIte,reduceEqDiff]) (fun h15 hS16=>?_)
 simp only [z9,qtx,qf,qd,ql,B0,reduceIte,reduceEqDiff]
 refine qg (v := .agg [lst Server.cells v_0.Servers,lst Letter.cells v_0.Post,lst Vote.cells v_0.Led]) rfl ?_
 obtain ⟨v17,hx18,hF19⟩:=qh hF
 simp only [qz,B0,reduceIte,reduceEqDiff]
 refine qfy rfl hS16 (qo (yq (qo ji (qo ji (qo ji zh)))) zh) (qhl (fun b hb=>decide_eq_true hb) v_0 v17 hx18) ?_
 rintro _ h32 ⟨v20,c21,v24,c25,v28,c29,rfl,hv22,hv26,hv30,hS33⟩
 refine ⟨_,ql9 (qm (SlN.free1 hv22) (qm (SlF.free1 hv26) (qm (SlF.free1 hv30) zm))),hS33,
   (ku (SlN.pf hv22 Server.RO) (ku (SlF.pf hv26 (fun _=>rfl)) (ku (SlF.pf hv30 (fun _=>rfl)) qd0))),fun h34 hS35=>?_⟩
 have hS36:Sep h34 (geL h.length) (c21++(c25++(c29++([Blk1 b9 [.nil,.nil,.nil] 31]++([]))))):=by simpa only [List.append_assoc,List.nil_append] using hS35
 simp only [jj,B0,reduceIte,reduceEqDiff]
 refine z8 hS36 (fun b37 h38 hS39=>?_)
 simp only [zg,B0,reduceIte,reduceEqDiff]
 refine qw (us:=[v20,v24,v28]) rfl (cs':=[v20,v24,
   v28]) hS39 hW rfl (qm (SlN.one hv22) (qm (SlF.one hv26) (qm (SlF.one hv30) zm))) (nle rfl) rfl (fun h41 hS42=>?_)
 simp only [qa,qpu,qf,qd,qe,qt0,qp,qb,Nat.reduceAdd,Nat.zero_add,Nat.add_zero,qr,ql,B0,reduceIte,reduceEqDiff]
 refine qg (v := .int .i64 v_1.Term) rfl ?_
 simp only [qa,qub,B0,reduceIte,reduceEqDiff]
 obtain ⟨oc56,hX57,hk58⟩:=kd hF19
 refine q2y (fun fr' h'=>∃ s,oc56 = .nxt s∧∃ v46 c47 v50 c51 c54,
   fr' 4 = .ptr b9 0∧fr' 6 = .ptr b37 0∧fr' 7 = .bool s.1∧SlF Letter.cells 7 93 v46 s.2.1.Post c47∧SlF Vote.cells 2 39 v50 s.2.1.Led c51∧SlN Server.R 6 46 v20 s.2.2 c54∧Sep h'
   (geL h.length) ([Blk1 b9 [.nil,.nil,.nil] 31]++([Blk1 b37 [v20,v46,v50] 31]++(c54++(c47++(c51++([]))))))) (fun Q59 hN60 hR61 hE62=>?_) ?_
 ·simp only [qus,qf,qd,qv,qb,yo,qe,qa,qw1,za,B0,reduceIte,reduceEqDiff]
  obtain ⟨s63,hX65,hk66⟩:=qh hX57
  refine uv (t:=(decide (v_1.Term=1))) (fun fr' h'=>fr' 2 = .ref [lst Server.cells v_0.Servers,lst Letter.cells v_0.Post,
    lst Vote.cells v_0.Led] 0∧fr' 3 = .ref [.int .i64 v_1.Term,
    .int .i64 v_1.Leader] 0∧fr' 4 = .ptr b9 0∧fr' 6 = .ptr b37 0∧fr' 7 = .bool false∧fr' 13 = .int .i64 v_1.Term∧fr' 14 = .bool s63∧Sep h' (geL h.length)
    ([Blk1 b9 [.nil,.nil,.nil] 31]++([Blk1 b37 [v20,v24,v28] 31]++(c21++(c25++(c29++([]))))))) (fun Q67 hN68 hR69 hE70=>⟨fun hc71=>?_,fun hc71=>?_⟩) ?_
  ·rw [iteT hc71] at hX65
   simp only [zc,qj,B0,reduceIte,reduceEqDiff]
   have e72:=qi hX65
   subst e72
   exact hN68 _ _ ⟨rfl,rfl,rfl,rfl,rfl,rfl,rfl,(Sep.m4 (Sep.m3 (Sep.m3 (Sep.m3 (Sep.m3 hS42)))))⟩
  ·rw [iteF hc71] at hX65
   simp only [qd,qv,qb,yo,qe,qa,qj,B0,reduceIte,reduceEqDiff]
   have e73:=qi hX65
   subst e73
   exact hN68 _ _ ⟨rfl,rfl,rfl,rfl,rfl,rfl,rfl,(Sep.m4 (Sep.m3 (Sep.m3 (Sep.m3 (Sep.m3 hS42)))))⟩
  rintro fr74 h75 ⟨f77,f78,f79,f80,f81,f82,f83,hS76⟩
  unfold kp at hk66
  simp only [qrc,f83,za,B0,reduceIte,reduceEqDiff]
  refine q8 (t:=s63) (fun hc84=>?_) (fun hc84=>?_)
  ·rw [iteT hc84] at hk66
   simp only [qtk,qf,qd,f78,qp,qb,Nat.reduceAdd,Nat.zero_add,Nat.add_zero,qr,ql,B0,reduceIte,reduceEqDiff]
   refine qg (v := .int .i64 v_1.Leader) rfl ?_
   simp only [f77,qp,qb,Nat.reduceAdd,Nat.zero_add,Nat.add_zero,qr,ql,B0,reduceIte,reduceEqDiff]
   refine qg (v:=lst Server.cells v_0.Servers) rfl ?_
   simp only [zn,qb,zt,qv,qbr,qz,B0,reduceIte,reduceEqDiff]
   refine jp rfl (qo zf (qo zf (qo zf zh))) (yk (fun b hb=>decide_eq_true hb) v_1.Leader 0 (IntKind.wrap .i64
     ((List.length v_0.Servers:Int) - 1)) _ rfl) ?_
   simp only [js,qb,ki,qa,qzd,za,B0,reduceIte,reduceEqDiff]
   refine q8 (t:=(!(zk v_1.Leader 0 (IntKind.wrap .i64 ((List.length v_0.Servers:Int) - 1))))) (fun hc85=>?_) (fun hc85=>?_)
   ·rw [iteT hc85] at hk66
    simp only [qf,qd,run_build,evp,B0,reduceIte,reduceEqDiff]
    refine qg (v := .agg [.nil,.nil,.nil]) rfl ?_
    simp only [f79,zg,B0,reduceIte,reduceEqDiff]
    refine qw (us:=[.nil,.nil,.nil]) rfl (cs':=[.nil,.nil,.nil]) hS76 hW rfl rfl (nle rfl) rfl (fun h86 hS87=>?_)
    simp only [qe,qa,q9,B0,reduceIte,reduceEqDiff]
    have e88:=qi hk66
    subst e88
    have hk58':=hk58
    dsimp only [jnO] at hk58'
    apply hR61
    have he:=qi hk58'
    subst he
    refine jz (qo (kf (bb:=b9) (oo:=0) (v := .agg [.nil,.nil,
      .nil]) (f79) ((zu (Sep.bk _ _ _ hS87)).trans rfl)) (qo (yl (v := .bool false) (rfl)) zh)) ?_
    exact ⟨.nil,[],.nil,[],.nil,[],by first | trivial | rfl,SlN.nil,SlF.nil,SlF.nil,
      ((Sep.dc ((Sep.dc ((Sep.dc ((Sep.dc ((Sep.dc (hS87)))))))))) : Sep _ (geL h.length) ([]))⟩
   rw [iteF hc85] at hk66
   simp only [zc,q0f,qf,qd,f80,qp,qb,Nat.reduceAdd,Nat.zero_add,Nat.add_zero,qs,ql,B0,reduceIte,reduceEqDiff]
   refine qg (v:=v20) ((zz (Sep.bk _ _ _ (Sep.m1 hS76))).trans rfl) ?_
   simp only [f78,qp,qb,Nat.reduceAdd,Nat.zero_add,Nat.add_zero,qr,ql,B0,reduceIte,reduceEqDiff]
   refine qg (v := .int .i64 v_1.Leader) rfl ?_
   obtain ⟨x89,hx90,hF91⟩:=qh hk66
   simp only [jg,B0,reduceIte,reduceEqDiff]
   obtain ⟨b92,hb93⟩:=SlN.isrow hv22 (wv hx90)
   refine qg (SlN.ia hv22 hb93 hx90) ?_
   simp only [qe,qa,qyh,qf,qd,f78,qp,qb,Nat.reduceAdd,Nat.zero_add,Nat.add_zero,qr,ql,B0,reduceIte,reduceEqDiff]
   refine qg (v := .int .i64 v_1.Term) rfl ?_
   simp only [qv,qb,yo,qa,q1v,za,B0,reduceIte,reduceEqDiff]
   refine q8 (t:=(decide (v_1.Term=5))) (fun hc94=>?_) (fun hc94=>?_)
   ·rw [iteT hc94] at hF91
    obtain ⟨c97,cs98,os99,hv100,hR101,hS102⟩:=SlG.opn (SlN.toG hv22 hb93 Server.RO.len) hx90 jm Server.RO.len (Sep.m2 hS76)
    obtain ⟨v104,c105,v108,c109,hv106,hv110,rfl,rfl⟩:=hR101
    have hS103:=Sep.no2 hS102
    simp only [qw7,qf,qd,qe,yx,qb,zo,qp,Nat.reduceAdd,Nat.zero_add,Nat.add_zero,qs,zg,B0,reduceIte,reduceEqDiff]
    refine yi (n:=6) (us:=[.bool false]) (cs:=[.int .i64 x89.Term,.int .i64 x89.Voted,.bool x89.Stands,.bool x89.Leads,v104,
      v108]) (o:=2) (cs':=[.int .i64 x89.Term,.int .i64 x89.Voted,.bool false,.bool x89.Leads,v104,
      v108]) rfl hv100 rfl hx90 hS103 hW rfl rfl (nle rfl) rfl (fun c112 h95 hv113 hS96=>?_)
    simp only [qa,qzz,qf,qd,qe,yx,qb,zo,qp,Nat.reduceAdd,Nat.zero_add,Nat.add_zero,qs,zg,B0,reduceIte,
      reduceEqDiff]
    refine yi (n:=6) (us:=[.bool false]) (cs:=[.int .i64 x89.Term,.int .i64 x89.Voted,.bool false,.bool x89.Leads,v104,
      v108]) (o:=3) (cs':=[.int .i64 x89.Term,.int .i64 x89.Voted,.bool false,.bool false,v104,
      v108]) rfl hv113 rfl hx90 hS96 hW rfl rfl (nle rfl) rfl (fun c116 h114 hv117 hS115=>?_)
    simp only [qa,qwn,qf,qd,qe,yx,qb,zo,qp,Nat.reduceAdd,Nat.zero_add,Nat.add_zero,qs,zg,B0,reduceIte,
      reduceEqDiff]
    refine yi (n:=6) (us:=[.nil]) (cs:=[.int .i64 x89.Term,.int .i64 x89.Voted,.bool false,.bool false,v104,v108]) (o:=4) (cs':=[.int .i64 x89.Term,
      .int .i64 x89.Voted,.bool false,.bool false,.nil,v108]) rfl hv117 rfl hx90 hS115 hW rfl rfl (nle rfl) rfl (fun c120 h118 hv121 hS119=>?_)
    simp only [qa,qf,qd,f80,ql,B0,reduceIte,reduceEqDiff]
    refine qg (v := .agg [v20,v24,v28]) ((zu (Sep.bk _ _ _ (Sep.m4 hS119))).trans rfl) ?_
    simp only [f79,zg,B0,reduceIte,reduceEqDiff]
    refine qw (us:=[v20,v24,v28]) rfl (cs':=[v20,v24,
      v28]) (Sep.m3 hS119) hW rfl (qm (SlG.one hv121) (qm (SlF.one hv26) (qm (SlF.one hv30) zm))) (nle rfl) rfl (fun h122 hS123=>?_)
    simp only [qe,qa,q9,B0,reduceIte,reduceEqDiff]
    have e124:=qi hF91
    subst e124
    have hk58':=hk58
    dsimp only [jnO] at hk58'
    apply hR61
    obtain ⟨c125,hv126,hS127⟩:=SlG.cls (e':=(Server.mk x89.Term x89.Voted false false [] x89.Log)) (c:=c120) (os:=[]++(c109)) hv121 rfl hx90 jm (Server.RI
      (x:=(Server.mk x89.Term x89.Voted false false [] x89.Log)) SlF.nil hv110) (Sep.ni2 (c1:=[]) (c2:=c109) (S:=([Blk1 b9 [v20,v24,
      v28] 31]++(c105++([Blk1 b37 [v20,v24,v28] 31]++(c25++(c29++([]))))))) ((Sep.m2 (Sep.m3 hS123)) : Sep _ (geL h.length) (c120++(c109++([Blk1 b9 [v20,
      v24,v28] 31]++(c105++([Blk1 b37 [v20,v24,v28] 31]++(c25++(c29++([]))))))))))
    have hx128:=xd (x':=(Server.mk x89.Term x89.Voted false false [] x89.Log)) hx90
    have hv129:=SlG.toN hv126
    have he:=qi hk58'
    subst he
    refine jz (qo (kf (bb:=b9) (oo:=0) (v := .agg [v20,v24,
      v28]) (f79) ((zu (Sep.bk _ _ _ (Sep.m1 hS127))).trans rfl)) (qo (yl (v := .bool true) (rfl)) zh)) ?_
    exact ⟨v20,c125,v24,c25,v28,c29,by first | trivial | rfl,hv129,hv26,hv30,(Sep.m2 (Sep.m2 (Sep.m2 (Sep.dc (Sep.m1 (Sep.dc (Sep.m1 (Sep.dc (Sep.m1 hS127)))))))))⟩
   rw [iteF hc94] at hF91
   simp only [zc,q14,qd,f78,qp,qb,Nat.reduceAdd,Nat.zero_add,Nat.add_zero,qr,ql,B0,reduceIte,reduceEqDiff]
   refine qg (v := .int .i64 v_1.Leader) rfl ?_
   obtain ⟨v130,hx131,hF132⟩:=qh hF91
   simp only [f80,qz,B0,reduceIte,reduceEqDiff]
   refine kq rfl (qgq hW b37 v17 v20 c21 hv22 v24 c25 hv26 v28 c29 hv30 v_1.Leader v130 hx131 (Sep.m4 (Sep.m4 (Sep.m4 (Sep.m4 hS76))))) ?_
   rintro _ h143 ⟨c133,v135,c136,v139,c140,rfl,hv134,hv137,hv141,hS144⟩
   simp only [qe,qa,qbc,qj,B0,reduceIte,reduceEqDiff]
   have e145:=qi hF132
   exact hN60 _ _ ⟨_,e145.symm,v135,c136,v139,c140,c133,f79,f80,rfl,hv137,hv141,hv134,(Sep.m4 (Sep.m3 (Sep.m3 (Sep.m3 (Sep.m3 hS144)))))⟩
  rw [iteF hc84] at hk66
  simp only [qtn,qf,qd,f82,qv,qb,yo,qe,qa,qs7,za,B0,reduceIte,reduceEqDiff]
  obtain ⟨s146,hX148,hk149⟩:=qh hk66
  refine uv (t:=(decide (v_1.Term=2))) (fun fr' h'=>fr' 2 = .ref [lst Server.cells v_0.Servers,lst Letter.cells v_0.Post,
    lst Vote.cells v_0.Led] 0∧fr' 3 = .ref [.int .i64 v_1.Term,
    .int .i64 v_1.Leader] 0∧fr' 4 = .ptr b9 0∧fr' 6 = .ptr b37 0∧fr' 7 = .bool false∧fr' 47 = .bool s146∧Sep h' (geL h.length) ([Blk1 b9 [.nil,.nil,
    .nil] 31]++([Blk1 b37 [v20,v24,v28] 31]++(c21++(c25++(c29++([]))))))) (fun Q150 hN151 hR152 hE153=>⟨fun hc154=>?_,fun hc154=>?_⟩) ?_
  ·rw [iteT hc154] at hX148
   simp only [zc,qj,B0,reduceIte,reduceEqDiff]
   have e155:=qi hX148
   subst e155
   exact hN151 _ _ ⟨f77,f78,f79,f80,f81,rfl,(Sep.m4 (Sep.m4 (Sep.m4 (Sep.m4 (Sep.m4 hS76)))))⟩
  ·rw [iteF hc154] at hX148
   simp only [qst,qf,qd,f82,qv,qb,yo,qe,qa,quh,za,B0,reduceIte,reduceEqDiff]
   refine q8 (t:=(decide (v_1.Term=3))) (fun hc156=>?_) (fun hc156=>?_)
   ·rw [iteT hc156] at hX148
    simp only [zc,qj,B0,reduceIte,reduceEqDiff]
    have e157:=qi hX148
    subst e157
    exact hN151 _ _ ⟨f77,f78,f79,f80,f81,rfl,(Sep.m4 (Sep.m4 (Sep.m4 (Sep.m4 (Sep.m4 hS76)))))⟩
   rw [iteF hc156] at hX148
   simp only [qd,f82,qv,qb,yo,qe,qa,qj,B0,reduceIte,reduceEqDiff]
   have e158:=qi hX148
   subst e158
   exact hN151 _ _ ⟨f77,f78,f79,f80,f81,rfl,(Sep.m4 (Sep.m4 (Sep.m4 (Sep.m4 (Sep.m4 hS76)))))⟩
  rintro fr159 h160 ⟨f162,f163,f164,f165,f166,f167,hS161⟩
  unfold ka at hk149
  simp only [qur,f167,za,B0,reduceIte,reduceEqDiff]
  refine q8 (t:=s146) (fun hc168=>?_) (fun hc168=>?_)
  ·rw [iteT hc168] at hk149
   simp only [qpn,qf,qd,f163,qp,qb,Nat.reduceAdd,Nat.zero_add,Nat.add_zero,qr,ql,B0,reduceIte,reduceEqDiff]
   refine qg (v := .int .i64 v_1.Leader) rfl ?_
   simp only [f162,qp,qb,Nat.reduceAdd,Nat.zero_add,Nat.add_zero,qr,ql,B0,reduceIte,reduceEqDiff]
   refine qg (v:=lst Letter.cells v_0.Post) rfl ?_
   simp only [zn,qb,zt,qv,qbr,qz,B0,reduceIte,reduceEqDiff]
   refine jp rfl (qo zf (qo zf (qo zf zh))) (yk (fun b hb=>decide_eq_true hb) v_1.Leader 0 (IntKind.wrap .i64
     ((List.length v_0.Post:Int) - 1)) _ rfl) ?_
   simp only [js,qb,ki,qa,quc,za,B0,reduceIte,reduceEqDiff]
   refine q8 (t:=(!(zk v_1.Leader 0 (IntKind.wrap .i64 ((List.length v_0.Post:Int) - 1))))) (fun hc169=>?_) (fun hc169=>?_)
   ·rw [iteT hc169] at hk149
    simp only [qf,qd,run_build,evp,B0,reduceIte,reduceEqDiff]
    refine qg (v := .agg [.nil,.nil,.nil]) rfl ?_
    simp only [f164,zg,B0,reduceIte,reduceEqDiff]
    refine qw (us:=[.nil,.nil,.nil]) rfl (cs':=[.nil,.nil,.nil]) hS161 hW rfl rfl (nle rfl) rfl (fun h170 hS171=>?_)
    simp only [qe,qa,q9,B0,reduceIte,reduceEqDiff]
    have e172:=qi hk149
    subst e172
    have hk58':=hk58
    dsimp only [jnO] at hk58'
    apply hR61
    have he:=qi hk58'
    subst he
    refine jz (qo (kf (bb:=b9) (oo:=0) (v := .agg [.nil,.nil,
      .nil]) (f164) ((zu (Sep.bk _ _ _ hS171)).trans rfl)) (qo (yl (v := .bool false) (rfl)) zh)) ?_
    exact ⟨.nil,[],.nil,[],.nil,[],by first | trivial | rfl,SlN.nil,SlF.nil,SlF.nil,
      ((Sep.dc ((Sep.dc ((Sep.dc ((Sep.dc ((Sep.dc (hS171)))))))))) : Sep _ (geL h.length) ([]))⟩
   rw [iteF hc169] at hk149
   simp only [zc,qr9,qf,qd,f162,qp,qb,Nat.reduceAdd,Nat.zero_add,Nat.add_zero,qr,ql,B0,reduceIte,reduceEqDiff]
   refine qg (v:=lst Letter.cells v_0.Post) rfl ?_
   simp only [f163,qp,qb,Nat.reduceAdd,Nat.zero_add,Nat.add_zero,qr,ql,B0,reduceIte,reduceEqDiff]
   refine qg (v := .int .i64 v_1.Leader) rfl ?_
   obtain ⟨x173,hx174,hF175⟩:=qh hk149
   simp only [jg,B0,reduceIte,reduceEqDiff]
   refine qg (v := .ref (Letter.cells x173) 0) (yg hx174 rfl) ?_
   simp only [ql,B0,reduceIte,reduceEqDiff]
   refine qg (v := .agg [.int .i64 x173.To,.int .i64 x173.From,.int .i64 x173.Term,.bool x173.Asks,.int .i64 x173.Last,.int .i64 x173.Long,.bool x173.Grant]) rfl ?_
   simp only [jj,B0,reduceIte,reduceEqDiff]
   refine z8 hS161 (fun b176 h177 hS178=>?_)
   simp only [zg,B0,reduceIte,reduceEqDiff]
   refine qw (us:=[.int .i64 x173.To,.int .i64 x173.From,.int .i64 x173.Term,.bool x173.Asks,.int .i64 x173.Last,.int .i64 x173.Long,
     .bool x173.Grant]) rfl (cs':=[.int .i64 x173.To,.int .i64 x173.From,.int .i64 x173.Term,.bool x173.Asks,.int .i64 x173.Last,.int .i64 x173.Long,
     .bool x173.Grant]) hS178 hW rfl rfl (nle rfl) rfl (fun h180 hS181=>?_)
   simp only [qa,B0,reduceIte,reduceEqDiff]
   refine jb hS181 hW (by simp only [B0,reduceIte,reduceEqDiff]) (fun h182 hS183=>?_)
   simp only [z9,qqc,qf,qd,f163,qp,qb,Nat.reduceAdd,Nat.zero_add,Nat.add_zero,qr,ql,B0,reduceIte,reduceEqDiff]
   refine qg (v := .int .i64 v_1.Term) rfl ?_
   simp only [qv,qb,yo,qa,qrb,za,B0,reduceIte,reduceEqDiff]
   refine q8 (t:=(decide (v_1.Term=4))) (fun hc184=>?_) (fun hc184=>?_)
   ·rw [iteT hc184] at hF175
    simp only [qsa,qf,qd,f162,qp,qb,Nat.reduceAdd,Nat.zero_add,Nat.add_zero,qr,ql,B0,reduceIte,reduceEqDiff]
    refine qg (v:=lst Letter.cells v_0.Post) rfl ?_
    simp only [zn,qb,zt,qv,qdj,qe,qa,qpc,qf,qd,f165,qp,Nat.reduceAdd,Nat.zero_add,Nat.add_zero,qs,
      ql,B0,reduceIte,reduceEqDiff]
    refine qg (v:=v24) ((zz (Sep.bk _ _ _ (Sep.m1 hS183))).trans rfl) ?_
    simp only [ql,B0,reduceIte,reduceEqDiff]
    refine qg (v := .agg [.int .i64 x173.To,.int .i64 x173.From,.int .i64 x173.Term,.bool x173.Asks,.int .i64 x173.Last,.int .i64 x173.Long,.bool x173.Grant]) rfl ?_
    simp only [ju,evp,B0,reduceIte,reduceEqDiff]
    refine jk (n:=7) (f:=Letter.cells) [x173] hS183 rfl rfl (fun v185 c186 h187 hv188 hS189=>?_)
    simp only [wa,B0,reduceIte,reduceEqDiff]
    obtain ⟨l191,hx192,hF193⟩:=qh hF175
    refine yj (f:=Letter.cells) hv26 (Sep.m4 hS189) hW (fun _=>rfl) (fun _=>rfl) (SlF.first hv188 hS189 (fun _=>rfl)) hx192
      (fun v194 c195 h196 hv197 hS198=>?_)
    simp only [f165,qp,qb,Nat.reduceAdd,Nat.zero_add,Nat.add_zero,qs,zg,B0,reduceIte,reduceEqDiff]
    refine qw (us:=[v194]) (jd (SlF.one hv197)) (cs':=[v20,v194,
      v28]) (Sep.m3 hS198) hW rfl (qm (SlF.one hv197) zm) (nle rfl) rfl (fun h200 hS201=>?_)
    simp only [qa,qdl,qcm,qge,reduceIte,qj,B0,reduceEqDiff]
    have e202:=qi hF193
    exact hN60 _ _ ⟨_,e202.symm,v194,c195,v28,c29,c21,f164,f165,rfl,hv197,hv30,hv22,(Sep.m4 (Sep.m3 (Sep.m4 (Sep.m2 (Sep.m4 (Sep.dc (Sep.m2 hS201)))))))⟩
   rw [iteF hc184] at hF175
   simp only [zc,qqk,qf,qd,qe,qa,qpj,f165,qp,qb,Nat.reduceAdd,Nat.zero_add,Nat.add_zero,qs,ql,B0,
     reduceIte,reduceEqDiff]
   refine qg (v:=v24) ((zz (Sep.bk _ _ _ (Sep.m1 hS183))).trans rfl) ?_
   simp only [f163,qp,qb,Nat.reduceAdd,Nat.zero_add,Nat.add_zero,qr,ql,B0,reduceIte,reduceEqDiff]
   refine qg (v := .int .i64 v_1.Leader) rfl ?_
   simp only [f163,qp,qb,Nat.reduceAdd,Nat.zero_add,Nat.add_zero,qr,ql,B0,reduceIte,reduceEqDiff]
   refine qg (v := .int .i64 v_1.Leader) rfl ?_
   obtain ⟨v203,hx204,hF205⟩:=qh hF175
   simp only [qv,qb,qbj,qz,B0,reduceIte,reduceEqDiff]
   refine kq rfl (qf7 hW v24 c25 v17.Post hv26 v_1.Leader (IntKind.wrap .i64 (v_1.Leader+1)) v203 hx204 (Sep.m3 hS183)) ?_
   rintro v206 h210 ⟨_,c207,rfl,hv208,hS211⟩
   simp only [f165,qp,qb,Nat.reduceAdd,Nat.zero_add,Nat.add_zero,qs,zg,B0,reduceIte,reduceEqDiff]
   refine qw (us:=[v206]) (jd (SlF.one hv208)) (cs':=[v20,v206,v28]) (Sep.m2 hS211) hW rfl (qm (SlF.one hv208) zm) (nle rfl) rfl (fun h212 hS213=>?_)
   simp only [qa,qp9,qf,qd,f163,qp,qb,Nat.reduceAdd,Nat.zero_add,Nat.add_zero,qr,ql,B0,reduceIte,reduceEqDiff]
   refine qg (v := .int .i64 v_1.Term) rfl ?_
   simp only [qv,qb,yo,qa,qro,za,B0,reduceIte,reduceEqDiff]
   refine q8 (t:=(decide (v_1.Term=2))) (fun hc214=>?_) (fun hc214=>?_)
   ·rw [iteT hc214] at hF205
    simp only [qd,ql,B0,reduceIte,reduceEqDiff]
    refine qg (v := .agg [.int .i64 x173.To,.int .i64 x173.From,.int .i64 x173.Term,.bool x173.Asks,.int .i64 x173.Last,.int .i64 x173.Long,.bool x173.Grant]) rfl ?_
    obtain ⟨v215,hx216,hF217⟩:=qh hF205
    simp only [f165,qz,B0,reduceIte,reduceEqDiff]
    refine kq rfl (qg6 hW k b37 (Election.mk v17.Servers v203 v17.Led) v20 c21 hv22 v206 c207 hv208 v28 c29 hv30 x173 v215 hx216 (Sep.m3 (Sep.m4 (Sep.m2
      (Sep.m4 hS213))))) ?_
    rintro _ h228 ⟨c218,v220,c221,v224,c225,rfl,hv219,hv222,hv226,hS229⟩
    simp only [qa,qbc,qj,B0,reduceIte,reduceEqDiff]
    have e230:=qi hF217
    exact hN60 _ _ ⟨_,e230.symm,v220,c221,v224,c225,c218,f164,f165,rfl,hv222,hv226,hv219,(Sep.m4 (Sep.m3 (Sep.m3 (Sep.m3 (Sep.m3 hS229)))))⟩
   rw [iteF hc214] at hF205
   simp only [zc,qbc,qj,B0,reduceIte,reduceEqDiff]
   have e231:=qi hF205
   exact hN60 _ _ ⟨_,e231.symm,v206,c207,v28,c29,c21,f164,f165,rfl,hv208,hv30,hv22,(Sep.m4 (Sep.m3 (Sep.m4 (Sep.m2 (Sep.m4 hS213)))))⟩
  rw [iteF hc168] at hk149
  simp only [zc,qbc,qj,B0,reduceIte,reduceEqDiff]
  have e232:=qi hk149
  exact hN60 _ _ ⟨_,e232.symm,v24,c25,v28,c29,c21,f164,f165,f166,hv26,hv30,hv22,(Sep.m4 (Sep.m4 (Sep.m4 (Sep.m4 (Sep.m4 hS161)))))⟩
 rintro fr235 h236 ⟨⟨s43,s44,s53⟩,rfl,v46,c47,v50,c51,c54,f238,f239,f240,hv48,hv52,hv55,hS237⟩
 dsimp only [jnO] at hk58
 dsimp only at *
 unfold ym at hk58
 simp only [qsb,qf,qd,f240,qe,js,qb,ki,B0,reduceIte,reduceEqDiff]
 obtain ⟨v244,hx245,hF246⟩:=qh hk58
 refine ja 4 (fun fr' h'=>Sep h' (geL h.length) ([Blk1 b9 [.nil,.nil,.nil] 31]++([Blk1 b37 [v20,v46,
   v50] 31]++(c54++(c47++(c51++([]))))))∧fr' 99 = .bool v244∧fr' 4 = .ptr b9 0∧fr' 6 = .ptr b37 0) (fun Q241 hN242=>?_) ?_
 ·simp only [List.take_succ_cons,List.take_zero]
  simp only [qc (g:=95),B0,reduceIte,reduceEqDiff]
  refine qy (t:=(!s43)) (fun hg243=>?_) (fun hg243=>?_)
  ·rw [iteT hg243] at hx245
   simp only [hg243,qc (g:=95),zq,qq,qb,zj,qa,qj,B0,reduceIte,reduceEqDiff]
   have e247:=qi hx245
   exact hN242 _ _ ⟨(Sep.m4 (Sep.m4 (Sep.m4 (Sep.m4 (Sep.m4 hS237))))),by rw [←e247]; simp only [B0,reduceIte,reduceEqDiff],f238,f239⟩
  ·rw [iteF hg243] at hx245
   simp only [hg243,qc (g:=95),qn,f239,ql,B0,reduceIte,reduceEqDiff]
   refine qg (v := .agg [v20,v46,v50]) ((zu (Sep.bk _ _ _ (Sep.m1 hS237))).trans rfl) ?_
   obtain ⟨v248,hx249,hF250⟩:=qh hx245
   simp only [hg243,qc (g:=95),qn,qz,B0,reduceIte,reduceEqDiff]
   refine jp rfl (qo (yq (qo (SlN.snap hv55 _ (Sep.m2 hS237) rfl Server.RO) (qo (SlF.snap hv48 (Sep.m3 hS237) rfl (fun _=>rfl) (fun _=>rfl)) (qo
     (SlF.snap hv52 (Sep.m4 hS237) rfl (fun _=>rfl) (fun _=>rfl)) zh)))) zh) (qa3 (fun b hb=>decide_eq_true hb)
     (Election.mk s53 s44.Post s44.Led) v248 hx249) ?_
   simp only [hg243,qc (g:=95),qn,js,qb,ki,qq,zi,qa,qj,B0,reduceIte,reduceEqDiff]
   have e251:=qi hF250
   exact hN242 _ _ ⟨(Sep.m4 (Sep.m4 (Sep.m4 (Sep.m4 (Sep.m4 hS237))))),by rw [←e251]; simp only [B0,reduceIte,reduceEqDiff],f238,f239⟩
 rintro fr252 h256 ⟨hS257,f253,f254,f255⟩
 simp only [List.drop_succ_cons,List.drop_zero]
 simp only [qa,qqi,f253,za,B0,reduceIte,reduceEqDiff]
 refine q8 (t:=v244) (fun hc258=>?_) (fun hc258=>?_)
 ·rw [iteT hc258] at hF246
  simp only [qf,qd,run_build,evp,B0,reduceIte,reduceEqDiff]
  refine qg (v := .agg [.nil,.nil,.nil]) rfl ?_
  simp only [f254,zg,B0,reduceIte,reduceEqDiff]
  refine qw (us:=[.nil,.nil,.nil]) rfl (cs':=[.nil,.nil,.nil]) hS257 hW rfl rfl (nle rfl) rfl (fun h259 hS260=>?_)
  simp only [qe,qa,q9,B0,reduceIte,reduceEqDiff]
  have he:=qi hF246
  subst he
  refine jz (qo (kf (bb:=b9) (oo:=0) (v := .agg [.nil,.nil,
    .nil]) (f254) ((zu (Sep.bk _ _ _ hS260)).trans rfl)) (qo (yl (v := .bool false) (rfl)) zh)) ?_
  exact ⟨.nil,[],.nil,[],.nil,[],by first | trivial | rfl,SlN.nil,SlF.nil,SlF.nil,
    ((Sep.dc ((Sep.dc ((Sep.dc ((Sep.dc ((Sep.dc (hS260)))))))))) : Sep _ (geL h.length) ([]))⟩
 rw [iteF hc258] at hF246
 simp only [zc,qf,qd,f255,ql,B0,reduceIte,reduceEqDiff]
 refine qg (v := .agg [v20,v46,v50]) ((zu (Sep.bk _ _ _ (Sep.m1 hS257))).trans rfl) ?_
 simp only [f254,zg,B0,reduceIte,reduceEqDiff]
 refine qw (us:=[v20,v46,v50]) rfl (cs':=[v20,v46,
   v50]) hS257 hW rfl (qm (SlN.one hv55) (qm (SlF.one hv48) (qm (SlF.one hv52) zm))) (nle rfl) rfl (fun h261 hS262=>?_)
 simp only [qe,qa,q9,B0,reduceIte,reduceEqDiff]
 have he:=qi hF246
 subst he
 refine jz (qo (kf (bb:=b9) (oo:=0) (v := .agg [v20,v46,
   v50]) (f254) ((zu (Sep.bk _ _ _ hS262)).trans rfl)) (qo (yl (v := .bool true) (rfl)) zh)) ?_
 exact ⟨v20,c54,v46,c47,v50,c51,by first | trivial | rfl,hv55,hv48,hv52,(Sep.m2 (Sep.m2 (Sep.m2 (Sep.dc ((Sep.dc (hS262)))))))⟩
theorem qhp {W:Nat→Bool}{h:Heap} (hW:∀ b,
  (geL h.length) b→W b=true) (k:Nat) (logs_0:List (List Int)) (l_1:List ElectStep) (r:Election × (List Bool) × Bool)
  (hF:k8 k logs_0 l_1=some r) : Ret E W 8 [lst (cL cI) logs_0,lst ElectStep.cells l_1] h (fun v h'=>∃ rv0_0 rc0_0 rv0_1 rc0_1 rv0_2 rc0_2 rv1 rc1,
  v = .tup [.agg [rv0_0,rv0_1,rv0_2],rv1,
  .bool r.2.2]∧SlN Server.R 6 46 rv0_0 r.1.Servers rc0_0∧SlF Letter.cells 7 93 rv0_1 r.1.Post rc0_1∧SlF Vote.cells 2 39 rv0_2 r.1.Led rc0_2∧SlF cB 1 4 rv1 r.2.1 rc1∧Sep h'
  (geL h.length) (rc0_0++(rc0_1++(rc0_2++(rc1++([])))))):=by
 refine Ret.of (fn:=x8) rfl (Run.of ?_)
 unfold k8 at hF
 have zf0:zb [lst (cL cI) logs_0,lst ElectStep.cells l_1] 0=lst (cL cI) logs_0:=rfl
 have zf1:zb [lst (cL cI) logs_0,lst ElectStep.cells l_1] 1=lst ElectStep.cells l_1:=rfl
 generalize zb [lst (cL cI) logs_0,lst ElectStep.cells l_1]=fr0 at zf0 zf1 ⊢
 have hS:Sep h (geL h.length) []:=Sep.nil h
 simp only [x8,qf,qd,jj,B0,reduceIte,reduceEqDiff]
 refine z8 hS (fun b1 h2 hS3=>?_)
 obtain ⟨v5,hx6,hF7⟩:=qh hF
 simp only [qe,qa,q1o,qf,qd,zf0,qz,B0,reduceIte,reduceEqDiff]
 refine qfy rfl hS3 (qo ji zh) (qh3 (fun b hb=>decide_eq_true hb) logs_0 v5 hx6) ?_
 rintro _ h20 ⟨v8,c9,v12,c13,v16,c17,rfl,hv10,hv14,hv18,hS21⟩
 refine ⟨_,qgp (qm (qgn (qm (SlN.free1 hv10) (qm (SlF.free1 hv14) (qm (SlF.free1 hv18) zm)))) (qm rfl zm)),hS21,
   (ku (SlN.pf hv10 Server.RO) (ku (SlF.pf hv14 (fun _=>rfl)) (ku (SlF.pf hv18 (fun _=>rfl)) qd0))),fun h22 hS23=>?_⟩
 have hS24:Sep h22 (geL h.length) (c9++(c13++(c17++([Blk1 b1 [.nil,.nil,.nil] 31]++([]))))):=by simpa only [List.append_assoc,List.nil_append] using hS23
 simp only [qe,qb1,qb,qbt,qbu,jj,B0,reduceIte,reduceEqDiff]
 refine z8 hS24 (fun b25 h26 hS27=>?_)
 simp only [zg,B0,reduceIte,reduceEqDiff]
 refine qw (us:=[v8,v12,v16]) rfl (cs':=[v8,v12,
   v16]) hS27 hW rfl (qm (SlN.one hv10) (qm (SlF.one hv14) (qm (SlF.one hv18) zm))) (nle rfl) rfl (fun h29 hS30=>?_)
 simp only [qe,qa,qxk,qf,qd,js,qb,ki,B0,reduceIte,reduceEqDiff]
 refine ja 4 (fun fr' h'=>Sep h' (geL h.length) ([Blk1 b1 [.nil,.nil,.nil] 31]++([Blk1 b25 [v8,v12,
   v16] 31]++(c9++(c13++(c17++([]))))))∧fr' 25 = .bool ((!v5.2)||(decide ((80:Int) <
   (List.length l_1:Int))))∧fr' 1=lst ElectStep.cells l_1∧fr' 4 = .ptr b1 0∧fr' 7 = .ptr b25 0) (fun Q31 hN32=>?_) ?_
 ·simp only [List.take_succ_cons,List.take_zero]
  simp only [qc (g:=21),B0,reduceIte,reduceEqDiff]
  refine qy (t:=(!v5.2)) (fun hg33=>?_) (fun hg33=>?_)
  ·simp only [hg33,qc (g:=21),zq,qq,qb,zj,qa,qj,B0,reduceIte,reduceEqDiff]
   exact hN32 _ _ ⟨(Sep.m4 (Sep.m3 (Sep.m3 (Sep.m3 (Sep.m3 hS30))))),by rw [orT hg33]; simp only [B0,reduceIte,reduceEqDiff],zf1,rfl,rfl⟩
  ·simp only [hg33,qc (g:=21),qn,zf1,qe,zn,qb,zt,qv,xj,qq,zi,qa,qj,B0,reduceIte,
    reduceEqDiff]
   exact hN32 _ _ ⟨(Sep.m4 (Sep.m3 (Sep.m3 (Sep.m3 (Sep.m3 hS30))))),by rw [orF hg33]; simp only [B0,reduceIte,reduceEqDiff],zf1,rfl,rfl⟩
 rintro fr34 h39 ⟨hS40,f35,f36,f37,f38⟩
 simp only [List.drop_succ_cons,List.drop_zero]
 simp only [qa,q4s,f35,za,B0,reduceIte,reduceEqDiff]
 refine q8 (t:=((!v5.2)||(decide ((80:Int)<(List.length l_1:Int))))) (fun hc41=>?_) (fun hc41=>?_)
 ·rw [iteT hc41] at hF7
  simp only [q4l,qf,qd,run_build,evp,B0,reduceIte,reduceEqDiff]
  refine qg (v := .agg [.nil,.nil,.nil]) rfl ?_
  simp only [f37,zg,B0,reduceIte,reduceEqDiff]
  refine qw (us:=[.nil,.nil,.nil]) rfl (cs':=[.nil,.nil,.nil]) hS40 hW rfl rfl (nle rfl) rfl (fun h42 hS43=>?_)
  simp only [qe,qa,q9,B0,reduceIte,reduceEqDiff]
  have he:=qi hF7
  subst he
  refine jz (qo (kf (bb:=b1) (oo:=0) (v := .agg [.nil,.nil,
    .nil]) (f37) ((zu (Sep.bk _ _ _ hS43)).trans rfl)) (qo (yl (v := .nil) (rfl)) (qo (yl (v := .bool false) (rfl)) zh))) ?_
  exact ⟨.nil,[],.nil,[],.nil,[],.nil,[],by first | trivial | rfl,SlN.nil,SlF.nil,SlF.nil,SlF.nil,
    ((Sep.dc ((Sep.dc ((Sep.dc ((Sep.dc ((Sep.dc (hS43)))))))))) : Sep _ (geL h.length) ([]))⟩
 rw [iteF hc41] at hF7
 simp only [zc,qz3,qf,qd,ju,evp,B0,reduceIte,reduceEqDiff]
 refine jk (n:=1) (f:=cB) ([] : List Bool) hS40 rfl rfl (fun v44 c45 h46 hv47 hS48=>?_)
 simp only [qe,qa,qzb,qf,qd,f36,zn,qb,zt,B0,reduceIte,reduceEqDiff]
 obtain ⟨oc88,hX90,hk91⟩:=kd hF7
 simp only [q4k]
 refine wj (σ:=(List Bool) × Election) l_1 (fun i86 x87 s198=>w8 k i86 x87 s198.1 s198.2) (fun s fr' h'=>∃ v70 c71 v75 c76 v79 c80 v83 c84,
   fr' 4 = .ptr b1 0∧fr' 7 = .ptr b25 0∧fr' 9=v70∧fr' 28=lst ElectStep.cells l_1∧SlF cB 1 4 v70 s.1 c71∧SlN Server.R 6 46 v75 s.2.Servers c76∧SlF Letter.cells 7 93 v79 s.2.Post c80∧SlF Vote.cells 2 39 v83 s.2.Led c84∧Sep h'
   (geL h.length) ([Blk1 b1 [.nil,.nil,.nil] 31]++([Blk1 b25 [v75,v79,v83] 31]++(c71++(c76++(c80++(c84++([])))))))) hX90 ⟨v44,c45,v8,c9,v12,c13,v16,c17,
   f37,f38,rfl,rfl,hv47,hv10,hv14,hv18,(Sep.m5 (Sep.m5 (Sep.m3 (Sep.m5 (Sep.m5 (Sep.m5 hS48))))))⟩ (by simp only [B0,reduceIte,reduceEqDiff]) (by simp only [B0,
   reduceIte,reduceEqDiff]) (fun _ _ _ h=>h) rfl rfl (fun _ _ _ _ h=>h) (fun _ _ _ _ h=>h) (fun _ _ _ _ h=>h) (by decide) ?_ ?_
 ·rintro i86 x87 ⟨s68,s73⟩ fr100 h101 hx107 ⟨v70,c71,v75,c76,v79,c80,v83,c84,f103,f104,f105,f106,hv72,hv77,hv81,hv85,
   hS102⟩ f108 f109 oc89 hF92 hr93 Q94 hN95 hB99 hK96 hR97 hE98
  dsimp only at *
  unfold w8 at hF92
  simp only [q4b,qf,qd,f106,f108,jg,B0,reduceIte,reduceEqDiff]
  refine qg (v := .ref (ElectStep.cells x87) 0) (wi hx107 rfl) ?_
  simp only [ql,B0,reduceIte,reduceEqDiff]
  refine qg (v := .agg [.int .i64 x87.Term,.int .i64 x87.Leader]) rfl ?_
  simp only [jj,B0,reduceIte,reduceEqDiff]
  refine z8 hS102 (fun b110 h111 hS112=>?_)
  simp only [zg,B0,reduceIte,reduceEqDiff]
  refine qw (us:=[.int .i64 x87.Term,.int .i64 x87.Leader]) rfl (cs':=[.int .i64 x87.Term,
    .int .i64 x87.Leader]) hS112 hW rfl rfl (nle rfl) rfl (fun h114 hS115=>?_)
  simp only [qa,B0,reduceIte,reduceEqDiff]
  refine jb hS115 hW (by simp only [B0,reduceIte,reduceEqDiff]) (fun h116 hS117=>?_)
  simp only [z9,q37,qf,qd,f104,ql,B0,reduceIte,reduceEqDiff]
  refine qg (v := .agg [v75,v79,v83]) ((zu (Sep.bk _ _ _ (Sep.m1 hS117))).trans rfl) ?_
  simp only [ql,B0,reduceIte,reduceEqDiff]
  refine qg (v := .agg [.int .i64 x87.Term,.int .i64 x87.Leader]) rfl ?_
  obtain ⟨v118,hx119,hF120⟩:=qh hF92
  simp only [qz,B0,reduceIte,reduceEqDiff]
  refine qfy rfl hS117 (qo (yq (qo (SlN.snap hv77 _ (Sep.m3 hS117) rfl Server.RO) (qo (SlF.snap hv81 (Sep.m4 hS117) rfl (fun _=>rfl) (fun _=>rfl)) (qo
    (SlF.snap hv85 (Sep.m5 hS117) rfl (fun _=>rfl) (fun _=>rfl)) zh)))) (qo (yq (qo zf (qo zf zh))) zh)) (qg4
    (fun b hb=>decide_eq_true hb) k s73 x87 v118 hx119) ?_
  rintro _ h133 ⟨v121,c122,v125,c126,v129,c130,rfl,hv123,hv127,hv131,hS134⟩
  refine ⟨_,qgp (qm (qgn (qm (SlN.free1 hv123) (qm (SlF.free1 hv127) (qm (SlF.free1 hv131) zm)))) (qm rfl zm)),hS134,
    (ku (SlN.pf hv123 Server.RO) (ku (SlF.pf hv127 (fun _=>rfl)) (ku (SlF.pf hv131 (fun _=>rfl)) qd0))),fun h135 hS136=>?_⟩
  have hS137:Sep h135 (geL h.length) (c122++(c126++(c130++([Blk1 b1 [.nil,.nil,.nil] 31]++([Blk1 b25 [v75,v79,
    v83] 31]++(c71++(c76++(c80++(c84++([])))))))))):=by simpa only [List.append_assoc,List.nil_append] using hS136
  simp only [qe,qb1,qb,qbt,qbu,jj,B0,reduceIte,reduceEqDiff]
  refine z8 hS137 (fun b138 h139 hS140=>?_)
  simp only [zg,B0,reduceIte,reduceEqDiff]
  refine qw (us:=[v121,v125,v129]) rfl (cs':=[v121,v125,
    v129]) hS140 hW rfl (qm (SlN.one hv123) (qm (SlF.one hv127) (qm (SlF.one hv131) zm))) (nle rfl) rfl (fun h142 hS143=>?_)
  simp only [qe,qa,B0,reduceIte,reduceEqDiff]
  refine jb hS143 hW (by simp only [B0,reduceIte,reduceEqDiff]) (fun h144 hS145=>?_)
  simp only [z9,q4d,qf,qd,qe,qa,q46,za,B0,reduceIte,reduceEqDiff]
  obtain ⟨s146,hX160,hk161⟩:=qh hF120
  refine uv (t:=v118.2) (fun fr' h'=>∃ v148 c149 v152 c153 v156 c157,
    fr' 4 = .ptr b1 0∧fr' 7 = .ptr b25 0∧fr' 9=v70∧fr' 13 = .bool v118.2∧fr' 28=lst ElectStep.cells l_1∧fr' 29 = .int .i64
    (List.length l_1:Int)∧fr' 30 = .int .i64
    (i86:Int)∧SlN Server.R 6 46 v148 s146.Servers c149∧SlF Letter.cells 7 93 v152 s146.Post c153∧SlF Vote.cells 2 39 v156 s146.Led c157∧Sep h' (geL h.length)
    ([Blk1 b1 [.nil,.nil,.nil] 31]++([Blk1 b25 [v148,v152,v156] 31]++(c71++(c149++(c153++(c157++([])))))))) (fun Q162 hN163 hR164 hE165=>⟨fun hc166=>?_,
    fun hc166=>?_⟩) ?_
  ·rw [iteT hc166] at hX160
   simp only [qd,ql,B0,reduceIte,reduceEqDiff]
   refine qg (v := .agg [v121,v125,v129]) rfl ?_
   simp only [f104,zg,B0,reduceIte,reduceEqDiff]
   refine qw (us:=[v121,v125,v129]) rfl (cs':=[v121,v125,
     v129]) (Sep.m4 hS145) hW rfl (qm (SlN.one hv123) (qm (SlF.one hv127) (qm (SlF.one hv131) zm))) (nle rfl) rfl (fun h167 hS168=>?_)
   simp only [qa,qj,B0,reduceIte,reduceEqDiff]
   have e169:=qi hX160
   subst e169
   exact hN163 _ _ ⟨v121,c122,v125,c126,v129,c130,f103,f104,f105,rfl,f106,f109,f108,hv123,hv127,hv131,
     (Sep.m5 (Sep.m4 (Sep.m5 (Sep.m3 (Sep.m3 (Sep.m3 (Sep.dc (Sep.m6 (Sep.dc (Sep.m6 (Sep.dc (Sep.m6 hS168))))))))))))⟩
  ·rw [iteF hc166] at hX160
   simp only [zc,qj,B0,reduceIte,reduceEqDiff]
   have e170:=qi hX160
   subst e170
   exact hN163 _ _ ⟨v75,c76,v79,c80,v83,c84,f103,f104,f105,rfl,f106,f109,f108,hv77,hv81,hv85,
     (Sep.m5 (Sep.m5 (Sep.m5 (Sep.m5 (Sep.m5 (Sep.m5 (Sep.dc ((Sep.dc ((Sep.dc (hS145))))))))))))⟩
  rintro fr171 h172 ⟨v148,c149,v152,c153,v156,c157,f174,f175,f176,f177,f178,f179,f180,hv150,hv154,hv158,hS173⟩
  unfold ur at hk161
  simp only [q4c,qd,f176,qe,f177,ju,evp,B0,reduceIte,reduceEqDiff]
  refine jk (n:=1) (f:=cB) [v118.2] hS173 rfl rfl (fun v181 c182 h183 hv184 hS185=>?_)
  simp only [wa,B0,reduceIte,reduceEqDiff]
  obtain ⟨l187,hx188,hF189⟩:=qh hk161
  refine yj (f:=cB) hv72 (Sep.m3 hS185) hW (fun _=>rfl) (fun _=>rfl) (SlF.first hv184 hS185 (fun _=>rfl)) hx188 (fun v190 c191 h192 hv193 hS194=>?_)
  simp only [qe,qa,qj,B0,reduceIte,reduceEqDiff]
  have e196:=qi hF189
  exact hN95 _ _ _ e196.symm ⟨v190,c191,v148,c149,v152,c153,v156,c157,f174,f175,rfl,f178,hv193,hv150,hv154,hv158,
    (Sep.m5 (Sep.m5 (Sep.m3 (Sep.m5 (Sep.m5 (Sep.m5 (Sep.dc (Sep.m1 hS194))))))))⟩ (f180) (f179)
 rintro ⟨s199,s204⟩ fr217 h218 rfl ⟨v201,c202,v206,c207,v210,c211,v214,c215,f220,f221,f222,f223,hv203,hv208,hv212,hv216,hS219⟩
 dsimp only [jnO] at hk91
 dsimp only at *
 unfold qdz at hk91
 simp only [qz1,qf,qd,f221,ql,B0,reduceIte,reduceEqDiff]
 refine qg (v := .agg [v206,v210,v214]) ((zu (Sep.bk _ _ _ (Sep.m1 hS219))).trans rfl) ?_
 simp only [f222,qe,f220,zg,B0,reduceIte,reduceEqDiff]
 refine qw (us:=[v206,v210,v214]) rfl (cs':=[v206,v210,
   v214]) hS219 hW rfl (qm (SlN.one hv208) (qm (SlF.one hv212) (qm (SlF.one hv216) zm))) (nle rfl) rfl (fun h224 hS225=>?_)
 simp only [qe,qa,q9,B0,reduceIte,reduceEqDiff]
 have he:=qi hk91
 subst he
 refine jz (qo (kf (bb:=b1) (oo:=0) (v := .agg [v206,v210,
   v214]) (f220) ((zu (Sep.bk _ _ _ hS225)).trans rfl)) (qo (yl (v:=v201) (rfl)) (qo (yl (v := .bool true) (rfl)) zh))) ?_
 exact ⟨v206,c207,v210,c211,v214,c215,v201,c202,by first | trivial | rfl,hv208,hv212,hv216,hv203,(Sep.m3 (Sep.m3 (Sep.m3 (Sep.dc ((Sep.dc (hS225)))))))⟩
theorem qhu {W:Nat→Bool}{h:Heap} (hW:∀ b,
  (geL h.length) b→W b=true) (logs_0:List (List Int)) (r:Election × Bool) (hF:wh logs_0=some r) : Ret E W 29 [lst (cL cI) logs_0] h
  (fun v h'=>∃ rv0_0 rc0_0 rv0_1 rc0_1 rv0_2 rc0_2,v = .tup [.agg [rv0_0,rv0_1,rv0_2],
  .bool r.2]∧SlN Server.R 6 46 rv0_0 r.1.Servers rc0_0∧SlF Letter.cells 7 93 rv0_1 r.1.Post rc0_1∧SlF Vote.cells 2 39 rv0_2 r.1.Led rc0_2∧Sep h' (geL h.length)
  (rc0_0++(rc0_1++(rc0_2++([]))))):=by
 refine Ret.of (fn:=x29) rfl (Run.of ?_)
 unfold wh at hF
 have zf0:zb [lst (cL cI) logs_0] 0=lst (cL cI) logs_0:=rfl
 generalize zb [lst (cL cI) logs_0]=fr0 at zf0 ⊢
 have hS:Sep h (geL h.length) []:=Sep.nil h
 simp only [x29,qf,qd,jj,B0,reduceIte,reduceEqDiff]
 refine z8 hS (fun b1 h2 hS3=>?_)
 simp only [qe,qa,qqg,qf,qd,jj,B0,reduceIte,reduceEqDiff]
 refine z8 hS3 (fun b5 h6 hS7=>?_)
 simp only [qa,qwx,qf,qd,zf0,qe,zn,qb,zt,B0,reduceIte,reduceEqDiff]
 obtain ⟨oc21,hX23,hk24⟩:=kd hF
 simp only [qwq]
 refine wj (σ:=Election) logs_0 (fun i19 x20 s110=>u0 i19 x20 s110) (fun s fr' h'=>∃ v16 c17,
   fr' 0=lst (cL cI) logs_0∧fr' 2 = .ptr b1 0∧fr' 4 = .ptr b5 0∧fr' 7=lst (cL cI) logs_0∧SlN Server.R 6 46 v16 s.Servers c17∧Sep h' (geL h.length)
   ([Blk1 b1 [.nil,.nil,.nil] 31]++([Blk1 b5 [v16,.nil,.nil] 31]++(c17++([]))))) hX23 ⟨.nil,[],zf0,rfl,rfl,rfl,SlN.nil,
   ((Sep.m1 hS7) : Sep _ (geL h.length) ([Blk1 b1 [.nil,.nil,.nil] 31]++([Blk1 b5 [.nil,.nil,.nil] 31]++([]))))⟩ (by simp only [B0,reduceIte,
   reduceEqDiff]) (by simp only [B0,reduceIte,reduceEqDiff]) (fun _ _ _ h=>h) rfl rfl (fun _ _ _ _ h=>h) (fun _ _ _ _ h=>h) (fun _ _ _ _ h=>h) (by decide) ?_ ?_
 ·rintro i19 x20 s14 fr33 h34 hx40 ⟨v16,c17,f36,f37,f38,f39,hv18,hS35⟩ f41 f42 oc22 hF25 hr26 Q27 hN28 hB32 hK29 hR30 hE31
  unfold u0 at hF25
  simp only [qws,qf,qd,f39,f41,jg,B0,reduceIte,reduceEqDiff]
  refine qg (v := .ref ((cL cI) x20) 0) (wi hx40 rfl) ?_
  simp only [ql,B0,reduceIte,reduceEqDiff]
  refine qg (v:=lst cI x20) rfl ?_
  obtain ⟨v43,hx44,hF45⟩:=qh hF25
  simp only [qe,qa,qzh,qf,qd,qz,B0,reduceIte,reduceEqDiff]
  refine jp rfl (qo ji zh) (qex (fun b hb=>decide_eq_true hb) x20 v43 hx44) ?_
  simp only [js,qb,ki,qe,B0,reduceIte,reduceEqDiff]
  obtain ⟨v49,hx50,hF51⟩:=qh hF45
  refine ja 4 (fun fr' h'=>Sep h' (geL h.length) ([Blk1 b1 [.nil,.nil,.nil] 31]++([Blk1 b5 [v16,.nil,
    .nil] 31]++(c17++([]))))∧fr' 20 = .bool v49∧fr' 0=lst (cL cI) logs_0∧fr' 2 = .ptr b1 0∧fr' 4 = .ptr b5 0∧fr' 6=lst cI x20∧fr' 7=lst
    (cL cI) logs_0∧fr' 8 = .int .i64 (List.length logs_0:Int)∧fr' 9 = .int .i64 (i19:Int)) (fun Q46 hN47=>?_) ?_
  ·simp only [List.take_succ_cons,List.take_zero]
   simp only [qc (g:=16),B0,reduceIte,reduceEqDiff]
   refine qy (t:=(!v43)) (fun hg48=>?_) (fun hg48=>?_)
   ·rw [iteT hg48] at hx50
    simp only [hg48,qc (g:=16),zq,qq,qb,zj,qa,qj,B0,reduceIte,reduceEqDiff]
    have e52:=qi hx50
    exact hN47 _ _ ⟨(Sep.m2 (Sep.m2 (Sep.m2 hS35))),by rw [←e52]; simp only [B0,reduceIte,reduceEqDiff],f36,f37,f38,rfl,f39,f42,f41⟩
   ·rw [iteF hg48] at hx50
    obtain ⟨v53,hx54,hF55⟩:=qh hx50
    simp only [hg48,qc (g:=16),qn,qe,qz,B0,reduceIte,reduceEqDiff]
    refine jp rfl (qo ji zh) (qb0 (fun b hb=>decide_eq_true hb) x20 v53 hx54) ?_
    simp only [hg48,qc (g:=16),qn,qv,qb,xj,qq,zi,qa,qj,B0,reduceIte,reduceEqDiff]
    have e56:=qi hF55
    exact hN47 _ _ ⟨(Sep.m2 (Sep.m2 (Sep.m2 hS35))),by rw [←e56]; simp only [B0,reduceIte,reduceEqDiff],f36,f37,f38,rfl,f39,f42,f41⟩
  rintro fr57 h66 ⟨hS67,f58,f59,f60,f61,f62,f63,f64,f65⟩
  simp only [List.drop_succ_cons,List.drop_zero]
  simp only [qa,qxr,f58,za,B0,reduceIte,reduceEqDiff]
  refine q8 (t:=v49) (fun hc68=>?_) (fun hc68=>?_)
  ·rw [iteT hc68] at hF51
   simp only [qf,qd,run_build,evp,B0,reduceIte,reduceEqDiff]
   refine qg (v := .agg [.nil,.nil,.nil]) rfl ?_
   simp only [f60,zg,B0,reduceIte,reduceEqDiff]
   refine qw (us:=[.nil,.nil,.nil]) rfl (cs':=[.nil,.nil,.nil]) hS67 hW rfl rfl (nle rfl) rfl (fun h69 hS70=>?_)
   simp only [qe,qa,q9,B0,reduceIte,reduceEqDiff]
   have e71:=qi hF51
   subst e71
   have ho72:=hr26 _ rfl
   have hk73:=hk24
   rw [ho72] at hk73
   dsimp only [jnO] at hk73
   apply hR30
   have he:=qi hk73
   subst he
   refine jz (qo (kf (bb:=b1) (oo:=0) (v := .agg [.nil,.nil,
     .nil]) (f60) ((zu (Sep.bk _ _ _ hS70)).trans rfl)) (qo (yl (v := .bool false) (rfl)) zh)) ?_
   exact ⟨.nil,[],.nil,[],.nil,[],by first | trivial | rfl,SlN.nil,SlF.nil,SlF.nil,((Sep.dc ((Sep.dc ((Sep.dc (hS70)))))) : Sep _ (geL h.length) ([]))⟩
  rw [iteF hc68] at hF51
  simp only [zc,q1t,jr,f61,qc0,qk,Nat.reduceAdd,Nat.zero_add,Nat.add_zero,qs,qb8,B0,reduceIte,reduceEqDiff]
  refine qdq (Sep.ltk (Sep.m1 hS67)) ?_
  refine qu (v:=v16) ((zz (Sep.bk _ _ _ (Sep.m1 hS67))).trans rfl) ?_
  simp only [wt,evp,B0,reduceIte,reduceEqDiff]
  refine yy (n:=1) (f:=cI) ([] : List Int) hS67 rfl rfl (fun v75 c76 h77 hv78 hS79 hq74=>?_)
  simp only [f62,zw,qk,qgk,B0,reduceIte,reduceEqDiff]
  obtain ⟨l81,hx82,hF83⟩:=qh hF51
  have hq84:=nwq (fun z hz=>Sep.dj (Sep.m1 (Sep.m1 hS79)) qeo (SlF.rowfp hv78 z hz))
  have hq85:=nwq (fun z hz=>Sep.dj (Sep.m1 (Sep.m2 hS79)) qeo (SlF.rowfp hv78 z hz))
  refine qjl (qto (fun z hz=>Sep.dj (Sep.m1 (Sep.m2 hS79)) qeo (SlF.rowfp hv78 z hz)) qhr) ?_
  refine yz (f:=cI) hv78 hS79 hW (fun _=>rfl) (fun _=>rfl) (w5 (fun _=>rfl)) hx82 (fun v86 c87 h88 hv89 hS90=>?_)
  simp only [qa1,evp,B0,reduceIte,reduceEqDiff]
  refine qu (v := .agg [.int .i64 10,.int .i64 (-1),.bool false,.bool false,.nil,v86]) (qc9 (uz (us:=[.int .i64 10]) (vs:=[.int .i64 10,.int .i64 0,
    .bool false,.bool false,.nil,.nil]) rfl rfl (nle rfl) rfl rfl (uz (us:=[.int .i64 (-1)]) (vs:=[.int .i64 10,.int .i64 (-1),.bool false,.bool false,.nil,
    .nil]) rfl rfl (nle rfl) rfl rfl (uz (us:=[v86]) (vs:=[.int .i64 10,.int .i64 (-1),.bool false,.bool false,.nil,
    v86]) (jd (SlF.one hv89)) rfl (nle rfl) (qm (SlF.one hv89) zm) rfl qen)))) ?_
  simp only [wt,evp,B0,reduceIte,reduceEqDiff]
  refine qhk (R:=Server.R) (n:=6) (cs:=[.int .i64 10,.int .i64 (-1),.bool false,.bool false,.nil,
    v86]) (os:=[]++(c87)) (Sep.bi2 (c1:=[]) (c2:=c87) (S:=([Blk1 b1 [.nil,.nil,.nil] 31]++([Blk1 b5 [v16,.nil,
    .nil] 31]++(c17++([]))))) (hS90:Sep _ (geL h.length) (c87++([Blk1 b1 [.nil,.nil,.nil] 31]++([Blk1 b5 [v16,.nil,
    .nil] 31]++(c17++([]))))))) (uz (us:=[.int .i64 10,.int .i64 (-1),.bool false,.bool false,.nil,v86]) (vs:=[.int .i64 10,.int .i64 (-1),.bool false,
    .bool false,.nil,v86]) rfl rfl (nle rfl) (qm rfl (qm rfl (qm rfl (qm rfl (qm rfl (qm (SlF.one hv89) zm)))))) rfl qen) (Server.RI (x :=
    (Server.mk 10 (-1) false false [] l81)) SlF.nil hv89) rfl (fun v92 c93 h94 hv95 hS96=>?_)
  simp only [qcr,B0,reduceIte,reduceEqDiff]
  obtain ⟨l98,hx99,hF100⟩:=qh hF83
  refine qi4 (R:=Server.R) (c:=c17) hv18 hv95 (Sep.m3 hS96) hW Server.RO.len Server.RO.one hx99 (fun v101 c102 h103 hv104 hS105=>?_)
  simp only [f61,zx,qk,Nat.reduceAdd,Nat.zero_add,Nat.add_zero,qs,qcv,B0,reduceIte,reduceEqDiff]
  refine xe (us:=[v101]) (jd (SlN.one hv104)) (cs':=[v101,.nil,
    .nil]) (Sep.m2 hS105) hW rfl (qm (SlN.one hv104) zm) (nle rfl) rfl (fun h107 hS108=>?_)
  simp only [zd,qj,B0,reduceIte,reduceEqDiff]
  have e109:=qi hF100
  exact hN28 _ _ _ e109.symm ⟨v101,c102,f59,f60,f61,f63,hv104,(Sep.m2 (Sep.m1 (Sep.m1 hS108)))⟩ (f65) (f64)
 rintro s111 fr116 h117 rfl ⟨v113,c114,f119,f120,f121,f122,hv115,hS118⟩
 dsimp only [jnO] at hk24
 unfold u9 at hk24
 simp only [qxi,qf,qd,f119,qe,zn,qb,zt,qz,B0,reduceIte,reduceEqDiff]
 refine jp rfl (qo zf (qo zf (qo zf zh))) (qga (fun b hb=>decide_eq_true hb) (List.length logs_0:Int) 1 5 _ rfl) ?_
 simp only [js,qb,ki,qa,qxt,za,B0,reduceIte,reduceEqDiff]
 refine q8 (t:=(!(kr (List.length logs_0:Int) 1 5))) (fun hc123=>?_) (fun hc123=>?_)
 ·rw [iteT hc123] at hk24
  simp only [qf,qd,run_build,evp,B0,reduceIte,reduceEqDiff]
  refine qg (v := .agg [.nil,.nil,.nil]) rfl ?_
  simp only [f120,zg,B0,reduceIte,reduceEqDiff]
  refine qw (us:=[.nil,.nil,.nil]) rfl (cs':=[.nil,.nil,.nil]) hS118 hW rfl rfl (nle rfl) rfl (fun h124 hS125=>?_)
  simp only [qe,qa,q9,B0,reduceIte,reduceEqDiff]
  have he:=qi hk24
  subst he
  refine jz (qo (kf (bb:=b1) (oo:=0) (v := .agg [.nil,.nil,
    .nil]) (f120) ((zu (Sep.bk _ _ _ hS125)).trans rfl)) (qo (yl (v := .bool false) (rfl)) zh)) ?_
  exact ⟨.nil,[],.nil,[],.nil,[],by first | trivial | rfl,SlN.nil,SlF.nil,SlF.nil,((Sep.dc ((Sep.dc ((Sep.dc (hS125)))))) : Sep _ (geL h.length) ([]))⟩
 rw [iteF hc123] at hk24
 simp only [zc,qf,qd,f121,ql,B0,reduceIte,reduceEqDiff]
 refine qg (v := .agg [v113,.nil,.nil]) ((zu (Sep.bk _ _ _ (Sep.m1 hS118))).trans rfl) ?_
 simp only [f120,zg,B0,reduceIte,reduceEqDiff]
 refine qw (us:=[v113,.nil,.nil]) rfl (cs':=[v113,.nil,
   .nil]) hS118 hW rfl (qm (SlN.one hv115) (qm rfl (qm rfl zm))) (nle rfl) rfl (fun h126 hS127=>?_)
 simp only [qe,qa,q9,B0,reduceIte,reduceEqDiff]
 have he:=qi hk24
 subst he
 refine jz (qo (kf (bb:=b1) (oo:=0) (v := .agg [v113,.nil,
   .nil]) (f120) ((zu (Sep.bk _ _ _ hS127)).trans rfl)) (qo (yl (v := .bool true) (rfl)) zh)) ?_
 exact ⟨v113,c114,.nil,[],.nil,[],by first | trivial | rfl,hv115,SlF.nil,SlF.nil,((Sep.dc ((Sep.dc (hS127)))) : Sep _ (geL h.length) (c114++([])))⟩
theorem qj9 {W:Nat→Bool}{h:Heap} (hW:∀ b,
  (geL h.length) b→W b=true) (e_0:Election) (k_1:Int) (r:Bool) (hF:some (qa9 e_0 k_1)=some r) : Ret E W 63 [.agg [lst Server.cells e_0.Servers,
  lst Letter.cells e_0.Post,lst Vote.cells e_0.Led],.int .i64 k_1] h (fun v h'=>cut h.length h' E.sz false 9 v=some (.bool r)):=by
 refine Ret.of (fn:=x63) rfl (Run.of ?_)
 unfold qa9 at hF
 have zf0:zb [.agg [lst Server.cells e_0.Servers,lst Letter.cells e_0.Post,lst Vote.cells e_0.Led],.int .i64 k_1] 0 = .agg [lst Server.cells e_0.Servers,
   lst Letter.cells e_0.Post,lst Vote.cells e_0.Led]:=rfl
 have zf1:zb [.agg [lst Server.cells e_0.Servers,lst Letter.cells e_0.Post,lst Vote.cells e_0.Led],.int .i64 k_1] 1 = .int .i64 k_1:=rfl
 generalize zb [.agg [lst Server.cells e_0.Servers,lst Letter.cells e_0.Post,lst Vote.cells e_0.Led],.int .i64 k_1]=fr0 at zf0 zf1 ⊢
 have hS:Sep h (geL h.length) []:=Sep.nil h
 simp only [x63,qf,qd,yb,zf0,B0,reduceIte,reduceEqDiff]
 refine kg (cs:=[lst Server.cells e_0.Servers,lst Letter.cells e_0.Post,lst Vote.cells e_0.Led]) hS rfl rfl rfl (fun b1 h2 hS3=>?_)
 simp only [qe,qa,B0,reduceIte,reduceEqDiff]
 refine jb hS3 hW (by simp only [B0,reduceIte,reduceEqDiff]) (fun h5 hS6=>?_)
 simp only [z9,qx9,qf,qd,zf1,qe,qv,qb,qhy,B0,reduceIte,reduceEqDiff]
 refine ja 6 (fun fr' h'=>Sep h' (geL h.length) ([])∧fr' 13 = .bool ((decide ((0:Int)≤k_1))&&(decide (k_1<(List.length e_0.Servers:Int))))) (fun Q7 hN8=>?_) ?_
 ·simp only [List.take_succ_cons,List.take_zero]
  simp only [qc (g:=7),B0,reduceIte,reduceEqDiff]
  refine qy (t:=(decide ((0:Int)≤k_1))) (fun hg9=>?_) (fun hg9=>?_)
  ·simp only [hg9,qc (g:=7),ze,zf1,qe,qp,qb,Nat.reduceAdd,Nat.zero_add,Nat.add_zero,qr,ql,B0,reduceIte,reduceEqDiff]
   refine qg (v:=lst Server.cells e_0.Servers) rfl ?_
   simp only [hg9,qc (g:=7),ze,zn,qb,zt,qv,qdj,qq,zj,qa,qj,B0,reduceIte,reduceEqDiff]
   exact hN8 _ _ ⟨hS6,by rw [qba hg9]; simp only [B0,reduceIte,reduceEqDiff]⟩
  ·simp only [hg9,qc (g:=7),jv,qq,qb,zi,qa,qj,B0,reduceIte,reduceEqDiff]
   exact hN8 _ _ ⟨hS6,by rw [qbf hg9]; simp only [B0,reduceIte,reduceEqDiff]⟩
 rintro fr10 h12 ⟨hS13,f11⟩
 simp only [List.drop_succ_cons,List.drop_zero]
 simp only [f11,qe,qa,q9,B0,reduceIte,reduceEqDiff]
 have he:=qi hF
 subst he
 simp only [zl,B0,reduceIte,reduceEqDiff]
 exact rfl
end Go.Proofs.Ytpddolihbnfahaa.X
