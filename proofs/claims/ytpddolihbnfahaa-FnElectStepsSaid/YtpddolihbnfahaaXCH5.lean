/- The functions' code comes to what the plain functions say (5). -/
import Derived.Test.YtpddolihbnfahaaXCH4
set_option linter.unusedVariables false
set_option linter.unusedSimpArgs false
set_option maxRecDepth 100000
namespace Go.Proofs.Ytpddolihbnfahaa.X
open Go
open Nat (reduceEqDiff)
theorem qiw {W:Nat→Bool}{h:Heap}{lo:Nat→Prop}{S0:List Obj} (hW:∀ b,
  lo b→W b=true) (k:Nat) (pb0:Nat) (v_0:Election) (pv0_0:XV) (pc0_0:List Obj) (ph0_0:SlN Server.R 6 46 pv0_0 v_0.Servers pc0_0) (pv0_1:XV) (pc0_1:List Obj)
  (ph0_1:SlF qe 7 93 pv0_1 v_0.Post pc0_1) (pv0_2:XV) (pc0_2:List Obj) (ph0_2:SlF ql 2 39 pv0_2 v_0.Led pc0_2) (v_1:Letter) (r:Election)
  (hF:qab k v_0 v_1=some r) (hS:Sep h lo ([Blk1 pb0 [pv0_0,pv0_1,pv0_2] 31]++(pc0_0++(pc0_1++(pc0_2++(S0)))))) : Ret E W 96 [.ptr pb0 0,
  .agg [.int .i64 v_1.To,.int .i64 v_1.From,.int .i64 v_1.Term,.bool v_1.Asks,.int .i64 v_1.Last,.int .i64 v_1.Long,
  .bool v_1.Grant]] h (fun v h'=>∃ ic0_0 iv0_1 ic0_1 iv0_2 ic0_2,
  v = .tup []∧SlN Server.R 6 46 pv0_0 r.Servers ic0_0∧SlF qe 7 93 iv0_1 r.Post ic0_1∧SlF ql 2 39 iv0_2 r.Led ic0_2∧Sep h' lo ([Blk1 pb0 [pv0_0,iv0_1,
  iv0_2] 31]++(ic0_0++(ic0_1++(ic0_2++(S0)))))):=by
 refine Ret.of (fn:=x96) rfl (Run.of ?_)
 unfold qab at hF
 have zf0:zh [.ptr pb0 0,.agg [.int .i64 v_1.To,.int .i64 v_1.From,.int .i64 v_1.Term,.bool v_1.Asks,.int .i64 v_1.Last,.int .i64 v_1.Long,
   .bool v_1.Grant]] 0 = .ptr pb0 0:=rfl
 have zf1:zh [.ptr pb0 0,.agg [.int .i64 v_1.To,.int .i64 v_1.From,.int .i64 v_1.Term,.bool v_1.Asks,.int .i64 v_1.Last,.int .i64 v_1.Long,
   .bool v_1.Grant]] 1 = .agg [.int .i64 v_1.To,.int .i64 v_1.From,.int .i64 v_1.Term,.bool v_1.Asks,.int .i64 v_1.Last,.int .i64 v_1.Long,.bool v_1.Grant]:=rfl
 generalize zh [.ptr pb0 0,.agg [.int .i64 v_1.To,.int .i64 v_1.From,.int .i64 v_1.Term,.bool v_1.Asks,.int .i64 v_1.Last,.int .i64 v_1.Long,
   .bool v_1.Grant]]=fr0 at zf0 zf1 ⊢
 simp only [x96,qg,qf,kc,zf1,B0,reduceIte,reduceEqDiff]
 refine jo (cs:=[.int .i64 v_1.To,.int .i64 v_1.From,.int .i64 v_1.Term,.bool v_1.Asks,.int .i64 v_1.Last,.int .i64 v_1.Long,
   .bool v_1.Grant]) hS rfl rfl rfl (fun b1 h2 hS3=>?_)
 simp only [qa,B0,reduceIte,reduceEqDiff]
 refine zy hS3 hW (by simp only [B0,reduceIte,reduceEqDiff]) (fun h5 hS6=>?_)
 simp only [zv,qv1,qg,jv,zf0,jf,qr,ku,z9,jc,Nat.reduceAdd,Nat.zero_add,Nat.add_zero,q8,ja,B0,reduceIte,
   reduceEqDiff]
 refine qw (v:=pv0_0) ((jh (Sep.bk _ _ _ hS6)).trans rfl) ?_
 simp only [jc,qr,Nat.reduceAdd,Nat.zero_add,Nat.add_zero,qu,ja,B0,reduceIte,reduceEqDiff]
 refine qw (v := .int .i64 v_1.To) rfl ?_
 obtain ⟨x7,hx8,hF9⟩:=qj hF
 simp only [qee,B0,reduceIte,reduceEqDiff]
 obtain ⟨b10,hb11⟩:=SlN.isrow ph0_0 (wg hx8)
 refine qw (SlN.ia ph0_0 hb11 hx8) ?_
 simp only [jf,qr,zn,qxw,qg,jv,jc,Nat.reduceAdd,Nat.zero_add,Nat.add_zero,qu,ja,B0,reduceIte,reduceEqDiff]
 refine qw (v := .int .i64 v_1.Term) rfl ?_
 obtain ⟨c12,cs13,os14,hv15,hR16,hS17⟩:=SlG.opn (SlN.toG ph0_0 hb11 Server.RO.len) hx8 ju Server.RO.len (Sep.m1 hS6)
 obtain ⟨v19,c20,v23,c24,hv21,hv25,rfl,rfl⟩:=hR16
 have hS18:=Sep.no2 hS17
 simp only [jf,qr,ku,z9,jc,Nat.reduceAdd,Nat.zero_add,Nat.add_zero,q8,ja,B0,reduceIte,reduceEqDiff]
 refine qw (v := .int .i64 x7.Term) ((SlG.ld (o:=0) hv15 rfl hx8 hS18 (nle rfl)).trans rfl) ?_
 simp only [uv,qr,xb,zn,q34,ze,B0,reduceIte,reduceEqDiff]
 obtain ⟨c27,hv28,hS29⟩:=SlG.cls0 (c:=c12) (os:=c20++(c24)) hv15 rfl hx8 ju (Server.RI (x:=x7) hv21 hv25) (Sep.ni2 (c1:=c20) (c2:=c24) (Sep.m2 (Sep.m2
   (Sep.m2 hS18))))
 have hv30:=SlG.toN hv28
 obtain ⟨s31,hX35,hk36⟩:=qj hF9
 refine uq (t:=(decide (x7.Term<v_1.Term))) (fun fr' h'=>∃ c32,fr' 0 = .ptr pb0 0∧fr' 3 = .ref [.int .i64 v_1.To,.int .i64 v_1.From,.int .i64 v_1.Term,
   .bool v_1.Asks,.int .i64 v_1.Last,.int .i64 v_1.Long,
   .bool v_1.Grant] 0∧fr' 4 = .ptr b10 (v_1.To.toNat*6)∧SlN Server.R 6 46 pv0_0 s31 c32∧Sep h' lo ([Blk1 pb0 [pv0_0,pv0_1,
   pv0_2] 31]++(c32++(pc0_1++(pc0_2++(S0)))))) (fun Q37 hN38 hR39 hE40=>⟨fun hc41=>?_,fun hc41=>?_⟩) ?_
 ·rw [iteT hc41] at hX35
  simp only [q1g,jv,jf,qr,jc,Nat.reduceAdd,Nat.zero_add,Nat.add_zero,qu,ja,B0,reduceIte,reduceEqDiff]
  refine qw (v := .int .i64 v_1.Term) rfl ?_
  obtain ⟨c42,cs43,os44,hv45,hR46,hS47⟩:=SlG.opn (SlN.toG hv30 hb11 Server.RO.len) hx8 ju Server.RO.len hS29
  obtain ⟨v49,c50,v53,c54,hv51,hv55,rfl,rfl⟩:=hR46
  have hS48:=Sep.no2 hS47
  simp only [jf,qr,ku,z9,jc,Nat.reduceAdd,Nat.zero_add,Nat.add_zero,q8,ja,B0,reduceIte,reduceEqDiff]
  refine qw (v:=v53) ((SlG.ld (o:=5) hv45 rfl hx8 hS48 (nle rfl)).trans rfl) ?_
  simp only [qci,evp,B0,reduceIte,reduceEqDiff]
  refine qw (v := .agg [.int .i64 v_1.Term,.int .i64 (-1),.bool false,.bool false,.nil,
    v53]) (qeo (qaj (us:=[.int .i64 v_1.Term]) (vs:=[.int .i64 v_1.Term,.int .i64 0,.bool false,.bool false,.nil,
    .nil]) rfl rfl (nle rfl) rfl rfl (qaj (us:=[.int .i64 (-1)]) (vs:=[.int .i64 v_1.Term,.int .i64 (-1),.bool false,.bool false,.nil,
    .nil]) rfl rfl (nle rfl) rfl rfl (qaj (us:=[v53]) (vs:=[.int .i64 v_1.Term,.int .i64 (-1),.bool false,.bool false,.nil,
    v53]) (js (SlF.one hv55)) rfl (nle rfl) (qq (SlF.one hv55) zo) rfl qfr)))) ?_
  simp only [ku,qr,z9,qbm,B0,reduceIte,reduceEqDiff]
  refine qg3 (n:=6) (us:=[.int .i64 v_1.Term,.int .i64 (-1),.bool false,.bool false,.nil,v53]) (cs:=[.int .i64 x7.Term,.int .i64 x7.Voted,.bool x7.Stands,
    .bool x7.Leads,v49,v53]) (o:=0) (cs':=[.int .i64 v_1.Term,.int .i64 (-1),.bool false,.bool false,.nil,
    v53]) rfl hv45 rfl hx8 hS48 hW rfl (qq rfl (qq rfl (qq rfl (qq rfl (qq rfl (qq (SlF.one hv55) zo)))))) (nle rfl) rfl (fun c59 h57 hv60 hS58=>?_)
  simp only [zn,qn,B0,reduceIte,reduceEqDiff]
  obtain ⟨c61,hv62,hS63⟩:=SlG.cls (e':=(Server.mk v_1.Term (-1) false false [] x7.Log)) (c:=c59) (os:=[]++(c54)) hv60 rfl hx8 ju (Server.RI (x :=
    (Server.mk v_1.Term (-1) false false [] x7.Log)) SlF.nil hv55) (Sep.ni2 (c1:=[]) (c2:=c54) (S:=(c50++([Blk1 pb0 [pv0_0,pv0_1,
    pv0_2] 31]++(pc0_1++(pc0_2++(S0)))))) ((Sep.m1 (Sep.m2 hS58)) : Sep _ lo (c59++(c54++(c50++([Blk1 pb0 [pv0_0,pv0_1,
    pv0_2] 31]++(pc0_1++(pc0_2++(S0)))))))))
  have hx64:=wq (x':=(Server.mk v_1.Term (-1) false false [] x7.Log)) hx8
  have hv65:=SlG.toN hv62
  have e66:=qk hX35
  subst e66
  exact hN38 _ _ ⟨c61,zf0,rfl,rfl,hv65,(Sep.m3 (Sep.m2 (Sep.m3 (Sep.m3 (Sep.dc (Sep.m1 hS63))))))⟩
 ·rw [iteF hc41] at hX35
  simp only [zi,qn,B0,reduceIte,reduceEqDiff]
  have e67:=qk hX35
  subst e67
  exact hN38 _ _ ⟨c27,zf0,rfl,rfl,hv30,(Sep.m3 (Sep.m2 (Sep.m3 (Sep.m3 hS29))))⟩
 rintro fr68 h69 ⟨c32,f71,f72,f73,hv33,hS70⟩
 unfold qcy at hk36
 simp only [qw8,qg,qf,f72,qt,qb,Nat.reduceAdd,Nat.zero_add,Nat.add_zero,qu,qo,B0,reduceIte,reduceEqDiff]
 refine qh (v := .bool v_1.Asks) rfl ?_
 simp only [qa,q5b,ze,B0,reduceIte,reduceEqDiff]
 refine zf (t:=v_1.Asks) (fun hc74=>?_) (fun hc74=>?_)
 ·rw [iteT hc74] at hk36
  simp only [q07,qg,jv,f72,jc,qr,Nat.reduceAdd,Nat.zero_add,Nat.add_zero,qu,ja,B0,reduceIte,reduceEqDiff]
  refine qw (v := .int .i64 v_1.Term) rfl ?_
  obtain ⟨x75,hx76,hF77⟩:=qj hk36
  obtain ⟨c78,cs79,os80,hv81,hR82,hS83⟩:=SlG.opn (SlN.toG hv33 hb11 Server.RO.len) hx76 ju Server.RO.len (Sep.m1 hS70)
  obtain ⟨v85,c86,v89,c90,hv87,hv91,rfl,rfl⟩:=hR82
  have hS84:=Sep.no2 hS83
  simp only [f73,jf,qr,ku,z9,jc,Nat.reduceAdd,Nat.zero_add,Nat.add_zero,q8,ja,B0,reduceIte,reduceEqDiff]
  refine qw (v := .int .i64 x75.Term) ((SlG.ld (o:=0) hv81 rfl hx76 hS84 (nle rfl)).trans rfl) ?_
  simp only [uv,qr,yh,jf,B0,reduceIte,reduceEqDiff]
  refine qfv 15 (fun fr' h'=>Sep h' lo ([Blk1 pb0 [pv0_0,pv0_1,
    pv0_2] 31]++(c78++(pc0_1++(pc0_2++(c86++(c90++(S0)))))))∧fr' 55 = .bool ((decide (v_1.Term=x75.Term))&&((decide (x75.Voted=(-1)))||(decide
    (x75.Voted=v_1.From))))∧fr' 0 = .ptr pb0 0∧fr' 3 = .ref [.int .i64 v_1.To,.int .i64 v_1.From,.int .i64 v_1.Term,.bool v_1.Asks,.int .i64 v_1.Last,
    .int .i64 v_1.Long,.bool v_1.Grant] 0∧fr' 4 = .ptr b10 (v_1.To.toNat*6)) rfl (fun Q93 hN94=>?_) ?_
  ·simp only [List.take_succ_cons,List.take_zero]
   simp only [zc (g:=40),B0,reduceIte,reduceEqDiff]
   refine k7 (t:=(decide (v_1.Term=x75.Term))) (fun hg95=>?_) (fun hg95=>?_)
   ·simp only [hg95,zc (g:=40),yj,f73,jf,qr,ku,z9,jc,Nat.reduceAdd,Nat.zero_add,Nat.add_zero,q8,ja,B0,
     reduceIte,reduceEqDiff]
    refine qw (v := .int .i64 x75.Voted) ((SlG.ld (o:=1) hv81 rfl hx76 hS84 (nle rfl)).trans rfl) ?_
    simp only [hg95,zc (g:=40),yj,uv,qr,yh,jf,B0,reduceIte,reduceEqDiff]
    refine qfv 8 (fun fr' h'=>Sep h' lo ([Blk1 pb0 [pv0_0,pv0_1,
      pv0_2] 31]++(c78++(pc0_1++(pc0_2++(c86++(c90++(S0)))))))∧fr' 54 = .bool ((decide (x75.Voted=(-1)))||(decide
      (x75.Voted=v_1.From)))∧fr' 0 = .ptr pb0 0∧fr' 3 = .ref [.int .i64 v_1.To,.int .i64 v_1.From,.int .i64 v_1.Term,.bool v_1.Asks,.int .i64 v_1.Last,
      .int .i64 v_1.Long,.bool v_1.Grant] 0∧fr' 4 = .ptr b10 (v_1.To.toNat*6)∧fr' 40 = .bool (decide (v_1.Term=x75.Term))) rfl (fun Q96 hN97=>?_) ?_
    ·simp only [List.take_succ_cons,List.take_zero]
     simp only [zc (g:=46),B0,reduceIte,reduceEqDiff]
     refine k7 (t:=(decide (x75.Voted=(-1)))) (fun hg98=>?_) (fun hg98=>?_)
     ·simp only [hg98,zc (g:=46),xd,hg95,zc (g:=40),yj,kr,qr,zj,zn,qn,B0,reduceIte,
       reduceEqDiff]
      exact hN97 _ _ ⟨(Sep.m5 (Sep.m4 (Sep.m5 (Sep.m5 (Sep.m2 (Sep.m2 hS84)))))),by rw [orT hg98]; simp only [B0,reduceIte,reduceEqDiff],f71,f72,f73,
        by simp only [hg95,B0,reduceIte,reduceEqDiff]⟩
     ·simp only [hg98,zc (g:=46),zu,f73,jf,qr,ku,z9,jc,Nat.reduceAdd,Nat.zero_add,Nat.add_zero,q8,ja,B0,
       reduceIte,reduceEqDiff]
      refine qw (v := .int .i64 x75.Voted) ((SlG.ld (o:=1) hv81 rfl hx76 hS84 (nle rfl)).trans rfl) ?_
      simp only [hg98,zc (g:=46),zu,f72,jc,qr,Nat.reduceAdd,Nat.zero_add,Nat.add_zero,qu,ja,B0,reduceIte,reduceEqDiff]
      refine qw (v := .int .i64 v_1.From) rfl ?_
      simp only [hg98,zc (g:=46),zu,uv,qr,yh,hg95,zc (g:=40),yj,kr,zk,zn,qn,B0,
        reduceIte,reduceEqDiff]
      exact hN97 _ _ ⟨(Sep.m5 (Sep.m4 (Sep.m5 (Sep.m5 (Sep.m2 (Sep.m2 hS84)))))),by rw [orF hg98]; simp only [B0,reduceIte,reduceEqDiff],f71,f72,f73,
        by simp only [hg95,B0,reduceIte,reduceEqDiff]⟩
    rintro fr99 h105 ⟨hS106,f100,f101,f102,f103,f104⟩
    simp only [List.drop_succ_cons,List.drop_zero]
    simp only [f104,hg95,kr,qr,zj,f100,zn,qn,B0,reduceIte,reduceEqDiff]
    exact hN94 _ _ ⟨(Sep.m5 (Sep.m5 (Sep.m5 (Sep.m5 (Sep.m5 (Sep.m5 hS106)))))),by rw [xl hg95]; simp only [B0,reduceIte,reduceEqDiff],f101,f102,f103⟩
   ·simp only [hg95,zc (g:=40),qfk,zc (g:=46),qqv,kr,qr,zk,zn,qn,B0,reduceIte,reduceEqDiff]
    exact hN94 _ _ ⟨(Sep.m5 (Sep.m4 (Sep.m5 (Sep.m5 (Sep.m2 (Sep.m2 hS84)))))),by rw [xm hg95]; simp only [B0,reduceIte,reduceEqDiff],f71,f72,f73⟩
  rintro fr107 h112 ⟨hS113,f108,f109,f110,f111⟩
  simp only [List.drop_succ_cons,List.drop_zero]
  simp only [f108,jf,qr,B0,reduceIte,reduceEqDiff]
  simp only [zc (g:=56),B0,reduceIte,reduceEqDiff]
  refine k7 (t:=((decide (v_1.Term=x75.Term))&&((decide (x75.Voted=(-1)))||(decide (x75.Voted=v_1.From))))) (fun hg114=>?_) (fun hg114=>?_)
  ·rw [iteT hg114] at hF77
   simp only [hg114,zc (g:=56),yj,f110,jc,qr,Nat.reduceAdd,Nat.zero_add,Nat.add_zero,qu,ja,B0,reduceIte,reduceEqDiff]
   refine qw (v := .int .i64 v_1.Last) rfl ?_
   simp only [hg114,zc (g:=56),yj,f110,jc,qr,Nat.reduceAdd,Nat.zero_add,Nat.add_zero,qu,ja,B0,reduceIte,reduceEqDiff]
   refine qw (v := .int .i64 v_1.Long) rfl ?_
   simp only [hg114,zc (g:=56),yj,f111,jf,qr,ku,z9,jc,Nat.reduceAdd,Nat.zero_add,Nat.add_zero,q8,ja,B0,
     reduceIte,reduceEqDiff]
   refine qw (v:=v89) ((SlG.ld (o:=5) hv81 rfl hx76 (Sep.m1 hS113) (nle rfl)).trans rfl) ?_
   obtain ⟨v115,hx116,hF117⟩:=qj hF77
   simp only [hg114,zc (g:=56),yj,yf,B0,reduceIte,reduceEqDiff]
   refine qdc rfl (qm zb (qm zb (qm (SlF.snap hv91 (Sep.m5 hS113) rfl (fun _=>rfl) (fun _=>rfl)) qz))) (qfe
     (fun b hb=>decide_eq_true hb) v_1.Last v_1.Long x75.Log v115 hx116) ?_
   simp only [hg114,kr,qr,zj,jf,zn,qrb,qg,qf,qd,qa,qqz,ze,B0,reduceIte,reduceEqDiff]
   obtain ⟨c118,hv119,hS120⟩:=SlG.cls0 (c:=c78) (os:=c86++(c90)) hv81 rfl hx76 ju (Server.RI (x:=x75) hv87 hv91) (Sep.ni2 (c1:=c86) (c2:=c90) (Sep.m3
     (Sep.m5 (Sep.m5 hS113))))
   have hv121:=SlG.toN hv119
   obtain ⟨s122,hX126,hk127⟩:=qj hF117
   refine uq (t:=v115) (fun fr' h'=>∃ c123,fr' 0 = .ptr pb0 0∧fr' 3 = .ref [.int .i64 v_1.To,.int .i64 v_1.From,.int .i64 v_1.Term,.bool v_1.Asks,
     .int .i64 v_1.Last,.int .i64 v_1.Long,
     .bool v_1.Grant] 0∧fr' 4 = .ptr b10 (v_1.To.toNat*6)∧fr' 5 = .bool v115∧SlN Server.R 6 46 pv0_0 s122 c123∧Sep h' lo ([Blk1 pb0 [pv0_0,pv0_1,
     pv0_2] 31]++(c123++(pc0_1++(pc0_2++(S0)))))) (fun Q128 hN129 hR130 hE131=>⟨fun hc132=>?_,fun hc132=>?_⟩) ?_
   ·rw [iteT hc132] at hX126
    simp only [qz5,qf,f111,qd,f110,qt,qb,Nat.reduceAdd,Nat.zero_add,Nat.add_zero,qu,qo,B0,reduceIte,reduceEqDiff]
    refine qh (v := .int .i64 v_1.From) rfl ?_
    obtain ⟨c135,cs136,os137,hv138,hR139,hS140⟩:=SlG.opn (SlN.toG hv121 hb11 Server.RO.len) hx76 ju Server.RO.len hS120
    obtain ⟨v142,c143,v146,c147,hv144,hv148,rfl,rfl⟩:=hR139
    have hS141:=Sep.no2 hS140
    simp only [wx,qb,z9,qt,Nat.reduceAdd,Nat.zero_add,Nat.add_zero,q8,zl,B0,reduceIte,reduceEqDiff]
    refine y7 (n:=6) (us:=[.int .i64 v_1.From]) (cs:=[.int .i64 x75.Term,.int .i64 x75.Voted,.bool x75.Stands,.bool x75.Leads,v142,
      v146]) (o:=1) (cs':=[.int .i64 x75.Term,.int .i64 v_1.From,.bool x75.Stands,.bool x75.Leads,v142,
      v146]) rfl hv138 rfl hx76 hS141 hW rfl rfl (nle rfl) rfl (fun c150 h133 hv151 hS134=>?_)
    simp only [qa,qn,B0,reduceIte,reduceEqDiff]
    obtain ⟨c152,hv153,hS154⟩:=SlG.cls (e':=(Server.mk x75.Term v_1.From x75.Stands x75.Leads x75.Got x75.Log)) (c:=c150) (os:=c143++(c147)) hv151 rfl hx76 ju
      (Server.RI (x:=(Server.mk x75.Term v_1.From x75.Stands x75.Leads x75.Got x75.Log)) hv144 hv148) (Sep.ni2 (c1:=c143) (c2:=c147) (Sep.m2 (Sep.m2 (Sep.m2 hS134))))
    have hx155:=wq (x':=(Server.mk x75.Term v_1.From x75.Stands x75.Leads x75.Got x75.Log)) hx76
    have hv156:=SlG.toN hv153
    have e157:=qk hX126
    subst e157
    exact hN129 _ _ ⟨c152,f109,f110,f111,rfl,hv156,(Sep.m3 (Sep.m2 (Sep.m3 (Sep.m3 hS154))))⟩
   ·rw [iteF hc132] at hX126
    simp only [zi,qn,B0,reduceIte,reduceEqDiff]
    have e158:=qk hX126
    subst e158
    exact hN129 _ _ ⟨c118,f109,f110,f111,rfl,hv121,(Sep.m3 (Sep.m2 (Sep.m3 (Sep.m3 hS120))))⟩
   rintro fr159 h160 ⟨c123,f162,f163,f164,f165,hv124,hS161⟩
   unfold qah at hk127
   simp only [qri,qg,jv,f162,qfb,qr,jf,ku,z9,jc,Nat.reduceAdd,Nat.zero_add,Nat.add_zero,q8,ja,B0,reduceIte,
     reduceEqDiff]
   refine qw (v:=pv0_1) ((jh (Sep.bk _ _ _ hS161)).trans rfl) ?_
   simp only [f163,jc,qr,Nat.reduceAdd,Nat.zero_add,Nat.add_zero,qu,ja,B0,reduceIte,reduceEqDiff]
   refine qw (v := .int .i64 v_1.From) rfl ?_
   simp only [f163,jc,qr,Nat.reduceAdd,Nat.zero_add,Nat.add_zero,qu,ja,B0,reduceIte,reduceEqDiff]
   refine qw (v := .int .i64 v_1.To) rfl ?_
   obtain ⟨x166,hx167,hF168⟩:=qj hk127
   obtain ⟨c169,cs170,os171,hv172,hR173,hS174⟩:=SlG.opn (SlN.toG hv124 hb11 Server.RO.len) hx167 ju Server.RO.len (Sep.m1 hS161)
   obtain ⟨v176,c177,v180,c181,hv178,hv182,rfl,rfl⟩:=hR173
   have hS175:=Sep.no2 hS174
   simp only [f164,jf,qr,ku,z9,jc,Nat.reduceAdd,Nat.zero_add,Nat.add_zero,q8,ja,B0,reduceIte,reduceEqDiff]
   refine qw (v := .int .i64 x166.Term) ((SlG.ld (o:=0) hv172 rfl hx167 hS175 (nle rfl)).trans rfl) ?_
   simp only [f165,jf,qr,qci,evp,B0,reduceIte,reduceEqDiff]
   refine qw (v := .agg [.int .i64 v_1.From,.int .i64 v_1.To,.int .i64 x166.Term,.bool false,.int .i64 0,.int .i64 0,.bool v115]) rfl ?_
   simp only [w6,evp,B0,reduceIte,reduceEqDiff]
   refine qev (n:=7) (f:=qe) [(Letter.mk v_1.From v_1.To x166.Term false 0 0 v115)] hS175 rfl rfl (fun v184 c185 h186 hv187 hS188=>?_)
   simp only [qd2,B0,reduceIte,reduceEqDiff]
   obtain ⟨l190,hx191,hF192⟩:=qj hF168
   refine wv (f:=qe) ph0_1 (Sep.m5 hS188) hW (fun _=>rfl) (fun _=>rfl) (SlF.first hv187 hS188 (fun _=>rfl)) hx191
     (fun v193 c194 h195 hv196 hS197=>?_)
   simp only [ku,qr,z9,jc,Nat.reduceAdd,Nat.zero_add,Nat.add_zero,q8,qbm,B0,reduceIte,reduceEqDiff]
   refine wa (us:=[v193]) (js (SlF.one hv196)) (cs':=[pv0_0,v193,
     pv0_2]) (Sep.m5 hS197) hW rfl (qq (SlF.one hv196) zo) (nle rfl) rfl (fun h199 hS200=>?_)
   simp only [zn,za,B0,reduceIte,reduceEqDiff]
   obtain ⟨c201,hv202,hS203⟩:=SlG.cls0 (c:=c169) (os:=c177++(c181)) hv172 rfl hx167 ju (Server.RI (x:=x166) hv178 hv182) (Sep.ni2 (c1:=c177) (c2:=c181)
     (Sep.m5 (Sep.m5 (Sep.m5 hS200))))
   have hv204:=SlG.toN hv202
   have he:=qk hF192
   subst he
   simp only [qoa,B0,reduceIte,reduceEqDiff]
   exact ⟨c201,v193,c194,pv0_2,pc0_2,by first | trivial | rfl,hv204,hv196,ph0_2,(Sep.m3 (Sep.m2 (Sep.m3 (Sep.m3 (Sep.dc (Sep.m3 hS203))))))⟩
  rw [iteF hg114] at hF77
  simp only [hg114,zc (g:=56),qfk,kr,qr,zk,jf,zn,qrb,qg,qf,qd,qa,qqz,ze,
    qk5,zi,qri,jv,f109,qfb,ku,z9,jc,Nat.reduceAdd,Nat.zero_add,Nat.add_zero,q8,ja,B0,reduceIte,reduceEqDiff]
  refine qw (v:=pv0_1) ((jh (Sep.bk _ _ _ hS113)).trans rfl) ?_
  simp only [f110,jc,qr,Nat.reduceAdd,Nat.zero_add,Nat.add_zero,qu,ja,B0,reduceIte,reduceEqDiff]
  refine qw (v := .int .i64 v_1.From) rfl ?_
  simp only [f110,jc,qr,Nat.reduceAdd,Nat.zero_add,Nat.add_zero,qu,ja,B0,reduceIte,reduceEqDiff]
  refine qw (v := .int .i64 v_1.To) rfl ?_
  simp only [f111,jf,qr,ku,z9,jc,Nat.reduceAdd,Nat.zero_add,Nat.add_zero,q8,ja,B0,reduceIte,reduceEqDiff]
  refine qw (v := .int .i64 x75.Term) ((SlG.ld (o:=0) hv81 rfl hx76 (Sep.m1 hS113) (nle rfl)).trans rfl) ?_
  simp only [jf,qr,qci,evp,B0,reduceIte,reduceEqDiff]
  refine qw (v := .agg [.int .i64 v_1.From,.int .i64 v_1.To,.int .i64 x75.Term,.bool false,.int .i64 0,.int .i64 0,.bool false]) rfl ?_
  simp only [w6,evp,B0,reduceIte,reduceEqDiff]
  refine wh (n:=7) (f:=qe) [(Letter.mk v_1.From v_1.To x75.Term false 0 0 false)] hS113 rfl rfl (fun v207 c208 h209 hv210 hS211 hq206=>?_)
  simp only [qd2,B0,reduceIte,reduceEqDiff]
  obtain ⟨l213,hx214,hF215⟩:=qj hF77
  refine wv (f:=qe) ph0_1 (Sep.m3 hS211) hW (fun _=>rfl) (fun _=>rfl) (SlF.first hv210 hS211 (fun _=>rfl)) hx214 (fun v216 c217 h218 hv219 hS220=>?_)
  simp only [ku,qr,z9,jc,Nat.reduceAdd,Nat.zero_add,Nat.add_zero,q8,qbm,B0,reduceIte,reduceEqDiff]
  refine wa (us:=[v216]) (js (SlF.one hv219)) (cs':=[pv0_0,v216,
    pv0_2]) (Sep.m2 hS220) hW rfl (qq (SlF.one hv219) zo) (nle rfl) rfl (fun h222 hS223=>?_)
  simp only [zn,za,B0,reduceIte,reduceEqDiff]
  obtain ⟨c224,hv225,hS226⟩:=SlG.cls0 (c:=c78) (os:=c86++(c90)) hv81 rfl hx76 ju (Server.RI (x:=x75) hv87 hv91) (Sep.ni2 (c1:=c86) (c2:=c90) (Sep.m5 (Sep.m6
    (Sep.m6 hS223))))
  have hv227:=SlG.toN hv225
  have he:=qk hF215
  subst he
  simp only [qoa,B0,reduceIte,reduceEqDiff]
  exact ⟨c224,v216,c217,pv0_2,pc0_2,by first | trivial | rfl,hv227,hv219,ph0_2,(Sep.m3 (Sep.m2 (Sep.m3 (Sep.m3 (Sep.dc (Sep.m3 hS226))))))⟩
 rw [iteF hc74] at hk36
 simp only [zi,qs1,qg,jv,f72,jc,qr,Nat.reduceAdd,Nat.zero_add,Nat.add_zero,qu,ja,B0,reduceIte,reduceEqDiff]
 refine qw (v := .bool v_1.Grant) rfl ?_
 simp only [jf,qr,B0,reduceIte,reduceEqDiff]
 obtain ⟨v231,hx232,hF233⟩:=qj hk36
 refine qfv 8 (fun fr' h'=>Sep h' lo ([Blk1 pb0 [pv0_0,pv0_1,
   pv0_2] 31]++(c32++(pc0_1++(pc0_2++(S0)))))∧fr' 102 = .bool v231∧fr' 0 = .ptr pb0 0∧fr' 3 = .ref [.int .i64 v_1.To,.int .i64 v_1.From,.int .i64 v_1.Term,
   .bool v_1.Asks,.int .i64 v_1.Last,.int .i64 v_1.Long,.bool v_1.Grant] 0∧fr' 4 = .ptr b10 (v_1.To.toNat*6)) rfl (fun Q228 hN229=>?_) ?_
 ·simp only [List.take_succ_cons,List.take_zero]
  simp only [zc (g:=94),B0,reduceIte,reduceEqDiff]
  refine k7 (t:=v_1.Grant) (fun hg230=>?_) (fun hg230=>?_)
  ·rw [iteT hg230] at hx232
   simp only [hg230,zc (g:=94),yj,f72,jc,qr,Nat.reduceAdd,Nat.zero_add,Nat.add_zero,qu,ja,B0,reduceIte,reduceEqDiff]
   refine qw (v := .int .i64 v_1.Term) rfl ?_
   obtain ⟨x234,hx235,hF236⟩:=qj hx232
   obtain ⟨c237,cs238,os239,hv240,hR241,hS242⟩:=SlG.opn (SlN.toG hv33 hb11 Server.RO.len) hx235 ju Server.RO.len (Sep.m1 hS70)
   obtain ⟨v244,c245,v248,c249,hv246,hv250,rfl,rfl⟩:=hR241
   have hS243:=Sep.no2 hS242
   simp only [hg230,zc (g:=94),yj,f73,jf,qr,ku,z9,jc,Nat.reduceAdd,Nat.zero_add,Nat.add_zero,q8,ja,B0,
     reduceIte,reduceEqDiff]
   refine qw (v := .int .i64 x234.Term) ((SlG.ld (o:=0) hv240 rfl hx235 hS243 (nle rfl)).trans rfl) ?_
   simp only [hg230,zc (g:=94),yj,uv,qr,yh,kr,zj,zn,qn,B0,reduceIte,reduceEqDiff]
   have e252:=qk hF236
   exact hN229 _ _ ⟨(Sep.m3 (Sep.m3 (Sep.m3 (Sep.m3 hS70)))),by rw [←e252]; simp only [B0,reduceIte,reduceEqDiff],f71,by simp only [f72,B0,reduceIte,reduceEqDiff,
     hg230],f73⟩
  ·rw [iteF hg230] at hx232
   simp only [hg230,zc (g:=94),qfk,kr,qr,zk,zn,qn,B0,reduceIte,reduceEqDiff]
   have e253:=qk hx232
   exact hN229 _ _ ⟨(Sep.m3 (Sep.m3 (Sep.m3 (Sep.m3 hS70)))),by rw [←e253]; simp only [B0,reduceIte,reduceEqDiff],f71,by simp only [f72,B0,reduceIte,reduceEqDiff,
     hg230],f73⟩
 rintro fr254 h259 ⟨hS260,f255,f256,f257,f258⟩
 simp only [List.drop_succ_cons,List.drop_zero]
 simp only [f255,jf,qr,B0,reduceIte,reduceEqDiff]
 obtain ⟨v264,hx265,hF266⟩:=qj hF233
 refine qfv 5 (fun fr' h'=>Sep h' lo ([Blk1 pb0 [pv0_0,pv0_1,
   pv0_2] 31]++(c32++(pc0_1++(pc0_2++(S0)))))∧fr' 108 = .bool v264∧fr' 0 = .ptr pb0 0∧fr' 3 = .ref [.int .i64 v_1.To,.int .i64 v_1.From,.int .i64 v_1.Term,
   .bool v_1.Asks,.int .i64 v_1.Last,.int .i64 v_1.Long,.bool v_1.Grant] 0∧fr' 4 = .ptr b10 (v_1.To.toNat*6)) rfl (fun Q261 hN262=>?_) ?_
 ·simp only [List.take_succ_cons,List.take_zero]
  simp only [zc (g:=103),B0,reduceIte,reduceEqDiff]
  refine k7 (t:=v231) (fun hg263=>?_) (fun hg263=>?_)
  ·rw [iteT hg263] at hx265
   obtain ⟨x267,hx268,hF269⟩:=qj hx265
   obtain ⟨c270,cs271,os272,hv273,hR274,hS275⟩:=SlG.opn (SlN.toG hv33 hb11 Server.RO.len) hx268 ju Server.RO.len (Sep.m1 hS260)
   obtain ⟨v277,c278,v281,c282,hv279,hv283,rfl,rfl⟩:=hR274
   have hS276:=Sep.no2 hS275
   simp only [hg263,zc (g:=103),yj,f258,jf,qr,ku,z9,jc,Nat.reduceAdd,Nat.zero_add,Nat.add_zero,q8,ja,B0,
     reduceIte,reduceEqDiff]
   refine qw (v := .bool x267.Stands) ((SlG.ld (o:=2) hv273 rfl hx268 hS276 (nle rfl)).trans rfl) ?_
   simp only [hg263,kr,qr,zj,zn,qn,B0,reduceIte,reduceEqDiff]
   have e285:=qk hF269
   exact hN262 _ _ ⟨(Sep.m3 (Sep.m3 (Sep.m3 (Sep.m3 hS260)))),by rw [←e285]; simp only [B0,reduceIte,reduceEqDiff],f256,f257,f258⟩
  ·rw [iteF hg263] at hx265
   simp only [hg263,zc (g:=103),qfk,kr,qr,zk,zn,qn,B0,reduceIte,reduceEqDiff]
   have e286:=qk hx265
   exact hN262 _ _ ⟨(Sep.m3 (Sep.m3 (Sep.m3 (Sep.m3 hS260)))),by rw [←e286]; simp only [B0,reduceIte,reduceEqDiff],f256,f257,f258⟩
 rintro fr287 h292 ⟨hS293,f288,f289,f290,f291⟩
 simp only [List.drop_succ_cons,List.drop_zero]
 simp only [zn,qr3,f288,ze,B0,reduceIte,reduceEqDiff]
 refine zf (t:=v264) (fun hc294=>?_) (fun hc294=>?_)
 ·rw [iteT hc294] at hF266
  obtain ⟨x295,hx296,hF297⟩:=qj hF266
  obtain ⟨c298,cs299,os300,hv301,hR302,hS303⟩:=SlG.opn (SlN.toG hv33 hb11 Server.RO.len) hx296 ju Server.RO.len (Sep.m1 hS293)
  obtain ⟨v305,c306,v309,c310,hv307,hv311,rfl,rfl⟩:=hR302
  have hS304:=Sep.no2 hS303
  simp only [qxi,qg,jv,f291,jf,qr,ku,z9,jc,Nat.reduceAdd,Nat.zero_add,Nat.add_zero,q8,ja,B0,reduceIte,reduceEqDiff]
  refine qw (v:=v305) ((SlG.ld (o:=4) hv301 rfl hx296 hS304 (nle rfl)).trans rfl) ?_
  simp only [f290,jc,qr,Nat.reduceAdd,Nat.zero_add,Nat.add_zero,qu,ja,B0,reduceIte,reduceEqDiff]
  refine qw (v := .int .i64 v_1.From) rfl ?_
  obtain ⟨v313,hx314,hF315⟩:=qj hF297
  simp only [yf,B0,reduceIte,reduceEqDiff]
  refine qdc rfl (qm (SlF.snap hv307 (Sep.m1 hS304) rfl (fun _=>rfl) (fun _=>rfl)) (qm zb qz)) (qg2
    (fun b hb=>decide_eq_true hb) k x295.Got v_1.From v313 hx314) ?_
  simp only [jf,qr,qnv,yz,yy,zn,qwk,qg,qf,qd,jj,qb,j9,qa,qun,ze,B0,reduceIte,
    reduceEqDiff]
  refine zf (t:=(!v313.2)) (fun hc316=>?_) (fun hc316=>?_)
  ·rw [iteT hc316] at hF315
   simp only [q2i,jv,f291,qfb,qr,jf,ku,z9,jc,Nat.reduceAdd,Nat.zero_add,Nat.add_zero,q8,ja,B0,reduceIte,reduceEqDiff]
   refine qw (v:=v305) ((SlG.ld (o:=4) hv301 rfl hx296 hS304 (nle rfl)).trans rfl) ?_
   simp only [jf,qr,f290,jc,Nat.reduceAdd,Nat.zero_add,Nat.add_zero,qu,ja,B0,reduceIte,reduceEqDiff]
   refine qw (v := .int .i64 v_1.From) rfl ?_
   simp only [w6,evp,B0,reduceIte,reduceEqDiff]
   refine wh (n:=1) (f:=cI) [v_1.From] hS304 rfl rfl (fun v318 c319 h320 hv321 hS322 hq317=>?_)
   obtain ⟨v324,hx325,hF326⟩:=qj hF315
   simp only [yf,B0,reduceIte,reduceEqDiff]
   refine qnm rfl (qjf hW v305 c306 x295.Got hv307 v313.1 v318 c319 [v_1.From] hv321 v324 hx325 (Sep.m2 hS322)) ?_
   rintro v327 h333 ⟨_,c328,c331,rfl,hv329,hv332,hS334⟩
   simp only [ku,qr,z9,jc,Nat.reduceAdd,Nat.zero_add,Nat.add_zero,q8,qbm,B0,reduceIte,reduceEqDiff]
   refine qg3 (n:=6) (us:=[v327]) (cs:=[.int .i64 x295.Term,.int .i64 x295.Voted,.bool x295.Stands,.bool x295.Leads,v305,
     v309]) (o:=4) (cs':=[.int .i64 x295.Term,.int .i64 x295.Voted,.bool x295.Stands,.bool x295.Leads,v327,
     v309]) (js (SlF.one hv329)) hv301 rfl hx296 (Sep.m2 hS334) hW rfl (qq (SlF.one hv329) zo) (nle rfl) rfl (fun c337 h335 hv338 hS336=>?_)
   simp only [zn,qng,qf,f289,qd,f290,qt,qb,Nat.reduceAdd,Nat.zero_add,Nat.add_zero,qu,qo,B0,reduceIte,reduceEqDiff]
   refine qh (v := .int .i64 v_1.To) rfl ?_
   obtain ⟨c339,hv340,hS341⟩:=SlG.cls (e':=(Server.mk x295.Term x295.Voted x295.Stands x295.Leads v324.1 x295.Log)) (c:=c337) (os:=c328 ++
     (c310)) hv338 rfl hx296 ju (Server.RI (x:=(Server.mk x295.Term x295.Voted x295.Stands x295.Leads v324.1 x295.Log)) hv329 hv311) (Sep.ni2 (c1:=c328) (c2:=c310)
     (Sep.m2 (Sep.m2 (Sep.m3 hS336))))
   have hx342:=wq (x':=(Server.mk x295.Term x295.Voted x295.Stands x295.Leads v324.1 x295.Log)) hx296
   have hv343:=SlG.toN hv340
   obtain ⟨v344,hx345,hF346⟩:=qj hF326
   simp only [qv,B0,reduceIte,reduceEqDiff]
   refine kg rfl (qc7 hW pb0 (Election.mk (List.set s31 v_1.To.toNat
     (Server.mk x295.Term x295.Voted x295.Stands x295.Leads v324.1 x295.Log)) v_0.Post v_0.Led) pv0_0 c339 hv343 pv0_1 pc0_1 ph0_1 pv0_2 pc0_2 ph0_2 v_1.To v344 hx345
     (Sep.m4 (Sep.m2 (Sep.m4 (Sep.m4 hS341))))) ?_
   rintro _ h355 ⟨c347,c349,v351,c352,rfl,hv348,hv350,hv353,hS356⟩
   simp only [qa,qn,B0,reduceIte,reduceEqDiff]
   have he:=qk hF346
   subst he
   simp only [qhc,B0,reduceIte,reduceEqDiff]
   exact ⟨c347,pv0_1,c349,v351,c352,by first | trivial | rfl,hv348,hv350,hv353,(Sep.m3 (Sep.m3 (Sep.m3 (Sep.m3 (Sep.dc (Sep.m4 hS356))))))⟩
  rw [iteF hc316] at hF315
  simp only [zi,qng,qf,f289,qd,f290,qt,qb,Nat.reduceAdd,Nat.zero_add,Nat.add_zero,qu,qo,B0,reduceIte,reduceEqDiff]
  refine qh (v := .int .i64 v_1.To) rfl ?_
  obtain ⟨c357,hv358,hS359⟩:=SlG.cls0 (c:=c298) (os:=c306++(c310)) hv301 rfl hx296 ju (Server.RI (x:=x295) hv307 hv311) (Sep.ni2 (c1:=c306) (c2:=c310)
    (Sep.m2 (Sep.m2 (Sep.m2 hS304))))
  have hv360:=SlG.toN hv358
  obtain ⟨v361,hx362,hF363⟩:=qj hF315
  simp only [qv,B0,reduceIte,reduceEqDiff]
  refine kg rfl (qc7 hW pb0 (Election.mk s31 v_0.Post v_0.Led) pv0_0 c357 hv360 pv0_1 pc0_1 ph0_1 pv0_2 pc0_2 ph0_2 v_1.To v361 hx362 (Sep.m3 (Sep.m2
    (Sep.m3 (Sep.m3 hS359))))) ?_
  rintro _ h372 ⟨c364,c366,v368,c369,rfl,hv365,hv367,hv370,hS373⟩
  simp only [qa,qn,B0,reduceIte,reduceEqDiff]
  have he:=qk hF363
  subst he
  simp only [qhc,B0,reduceIte,reduceEqDiff]
  exact ⟨c364,pv0_1,c366,v368,c369,by first | trivial | rfl,hv365,hv367,hv370,(Sep.m3 (Sep.m3 (Sep.m3 (Sep.m3 hS373))))⟩
 rw [iteF hc294] at hF266
 simp only [zi,qn,B0,reduceIte,reduceEqDiff]
 have he:=qk hF266
 subst he
 simp only [qhc,B0,reduceIte,reduceEqDiff]
 exact ⟨c32,pv0_1,pc0_1,pv0_2,pc0_2,by first | trivial | rfl,hv33,ph0_1,ph0_2,(Sep.m3 (Sep.m3 (Sep.m3 (Sep.m3 hS293))))⟩
end Go.Proofs.Ytpddolihbnfahaa.X
namespace Go.Proofs.Ytpddolihbnfahaa.X
open Go
open Nat (reduceEqDiff)
theorem qi2 {W:Nat→Bool}{h:Heap} (hW:∀ b,
  (geL h.length) b→W b=true) (k:Nat) (v_0:Election) (v_1:ElectStep) (r:Election × Bool)
  (hF:u9 k v_0 v_1=some r) : Ret E W 50 [.agg [lst qi v_0.Servers,lst qe v_0.Post,lst ql v_0.Led],.agg [.int .i64 v_1.Term,
  .int .i64 v_1.Leader]] h (fun v h'=>∃ rv0_0 rc0_0 rv0_1 rc0_1 rv0_2 rc0_2,v = .tup [.agg [rv0_0,rv0_1,rv0_2],
  .bool r.2]∧SlN Server.R 6 46 rv0_0 r.1.Servers rc0_0∧SlF qe 7 93 rv0_1 r.1.Post rc0_1∧SlF ql 2 39 rv0_2 r.1.Led rc0_2∧Sep h' (geL h.length)
  (rc0_0++(rc0_1++(rc0_2++([]))))):=by
 refine Ret.of (fn:=x50) rfl (Run.of ?_)
 unfold u9 at hF
 have zf0:zh [.agg [lst qi v_0.Servers,lst qe v_0.Post,lst ql v_0.Led],.agg [.int .i64 v_1.Term,
   .int .i64 v_1.Leader]] 0 = .agg [lst qi v_0.Servers,lst qe v_0.Post,lst ql v_0.Led]:=rfl
 have zf1:zh [.agg [lst qi v_0.Servers,lst qe v_0.Post,lst ql v_0.Led],.agg [.int .i64 v_1.Term,
   .int .i64 v_1.Leader]] 1 = .agg [.int .i64 v_1.Term,.int .i64 v_1.Leader]:=rfl
 generalize zh [.agg [lst qi v_0.Servers,lst qe v_0.Post,lst ql v_0.Led],.agg [.int .i64 v_1.Term,.int .i64 v_1.Leader]]=fr0 at zf0 zf1 ⊢
 have hS:Sep h (geL h.length) []:=Sep.nil h
 simp only [x50,qg,qf,kc,zf0,B0,reduceIte,reduceEqDiff]
 refine jo (cs:=[lst qi v_0.Servers,lst qe v_0.Post,lst ql v_0.Led]) hS rfl rfl rfl (fun b1 h2 hS3=>?_)
 simp only [kc,zf1,B0,reduceIte,reduceEqDiff]
 refine jo (cs:=[.int .i64 v_1.Term,.int .i64 v_1.Leader]) hS3 rfl rfl rfl (fun b5 h6 hS7=>?_)
 simp only [jg,B0,reduceIte,reduceEqDiff]
 refine zw hS7 (fun b9 h10 hS11=>?_)
 simp only [qd,qa,B0,reduceIte,reduceEqDiff]
 refine zy (Sep.m2 hS11) hW (by simp only [B0,reduceIte,reduceEqDiff]) (fun h13 hS14=>?_)
 refine zy (Sep.m1 hS14) hW (by simp only [B0,reduceIte,reduceEqDiff]) (fun h15 hS16=>?_)
 simp only [zv,qte,qg,qf,qo,B0,reduceIte,reduceEqDiff]
 refine qh (v := .agg [lst qi v_0.Servers,lst qe v_0.Post,lst ql v_0.Led]) rfl ?_
 obtain ⟨v17,hx18,hF19⟩:=qj hF
 simp only [qv,B0,reduceIte,reduceEqDiff]
 refine qb7 rfl hS16 (qm (jm (qm zm (qm zm (qm zm qz)))) qz) (qje (fun b hb=>decide_eq_true hb) v_0 v17 hx18) ?_
 rintro _ h32 ⟨v20,c21,v24,c25,v28,c29,rfl,hv22,hv26,hv30,hS33⟩
 refine ⟨_,qjp (qq (SlN.free1 hv22) (qq (SlF.free1 hv26) (qq (SlF.free1 hv30) zo))),hS33,
   (jq (SlN.pf hv22 Server.RO) (jq (SlF.pf hv26 (fun _=>rfl)) (jq (SlF.pf hv30 (fun _=>rfl)) uf))),fun h34 hS35=>?_⟩
 have hS36:Sep h34 (geL h.length) (c21++(c25++(c29++([Blk1 b9 [.nil,.nil,.nil] 31]++([]))))):=by simpa only [List.append_assoc,List.nil_append] using hS35
 simp only [jg,B0,reduceIte,reduceEqDiff]
 refine zw hS36 (fun b37 h38 hS39=>?_)
 simp only [zl,B0,reduceIte,reduceEqDiff]
 refine q9 (us:=[v20,v24,v28]) rfl (cs':=[v20,v24,
   v28]) hS39 hW rfl (qq (SlN.one hv22) (qq (SlF.one hv26) (qq (SlF.one hv30) zo))) (nle rfl) rfl (fun h41 hS42=>?_)
 simp only [qa,qu3,qg,qf,qd,qtd,qt,qb,Nat.reduceAdd,Nat.zero_add,Nat.add_zero,qu,qo,B0,reduceIte,reduceEqDiff]
 refine qh (v := .int .i64 v_1.Term) rfl ?_
 simp only [qa,qyd,B0,reduceIte,reduceEqDiff]
 obtain ⟨oc56,hX57,hk58⟩:=kn hF19
 refine q7t (fun fr' h'=>∃ s,oc56 = .nxt s∧∃ v46 c47 v50 c51 c54,
   fr' 4 = .ptr b9 0∧fr' 6 = .ptr b37 0∧fr' 7 = .bool s.1∧SlF qe 7 93 v46 s.2.1.Post c47∧SlF ql 2 39 v50 s.2.1.Led c51∧SlN Server.R 6 46 v20 s.2.2 c54∧Sep h'
   (geL h.length) ([Blk1 b9 [.nil,.nil,.nil] 31]++([Blk1 b37 [v20,v46,v50] 31]++(c54++(c47++(c51++([]))))))) (fun Q59 hN60 hR61 hE62=>?_) ?_
 ·simp only [qsr,qg,qf,qx,qb,yh,qd,qa,q62,ze,B0,reduceIte,reduceEqDiff]
  obtain ⟨s63,hX65,hk66⟩:=qj hX57
  refine uq (t:=(decide (v_1.Term=1))) (fun fr' h'=>fr' 2 = .ref [lst qi v_0.Servers,lst qe v_0.Post,
    lst ql v_0.Led] 0∧fr' 3 = .ref [.int .i64 v_1.Term,
    .int .i64 v_1.Leader] 0∧fr' 4 = .ptr b9 0∧fr' 6 = .ptr b37 0∧fr' 7 = .bool false∧fr' 13 = .int .i64 v_1.Term∧fr' 14 = .bool s63∧Sep h' (geL h.length)
    ([Blk1 b9 [.nil,.nil,.nil] 31]++([Blk1 b37 [v20,v24,v28] 31]++(c21++(c25++(c29++([]))))))) (fun Q67 hN68 hR69 hE70=>⟨fun hc71=>?_,fun hc71=>?_⟩) ?_
  ·rw [iteT hc71] at hX65
   simp only [zi,qn,B0,reduceIte,reduceEqDiff]
   have e72:=qk hX65
   subst e72
   exact hN68 _ _ ⟨rfl,rfl,rfl,rfl,rfl,rfl,rfl,(Sep.m4 (Sep.m3 (Sep.m3 (Sep.m3 (Sep.m3 hS42)))))⟩
  ·rw [iteF hc71] at hX65
   simp only [qf,qx,qb,yh,qd,qa,qn,B0,reduceIte,reduceEqDiff]
   have e73:=qk hX65
   subst e73
   exact hN68 _ _ ⟨rfl,rfl,rfl,rfl,rfl,rfl,rfl,(Sep.m4 (Sep.m3 (Sep.m3 (Sep.m3 (Sep.m3 hS42)))))⟩
  rintro fr74 h75 ⟨f77,f78,f79,f80,f81,f82,f83,hS76⟩
  unfold yc at hk66
  simp only [qw3,f83,ze,B0,reduceIte,reduceEqDiff]
  refine zf (t:=s63) (fun hc84=>?_) (fun hc84=>?_)
  ·rw [iteT hc84] at hk66
   simp only [qtu,qg,qf,f78,qt,qb,Nat.reduceAdd,Nat.zero_add,Nat.add_zero,qu,qo,B0,reduceIte,reduceEqDiff]
   refine qh (v := .int .i64 v_1.Leader) rfl ?_
   simp only [f77,qt,qb,Nat.reduceAdd,Nat.zero_add,Nat.add_zero,qu,qo,B0,reduceIte,reduceEqDiff]
   refine qh (v:=lst qi v_0.Servers) rfl ?_
   simp only [zr,qb,zx,qx,qbd,qv,B0,reduceIte,reduceEqDiff]
   refine je rfl (qm zb (qm zb (qm zb qz))) (wi (fun b hb=>decide_eq_true hb) v_1.Leader 0 (IntKind.wrap .i64
     ((List.length v_0.Servers:Int) - 1)) _ rfl) ?_
   simp only [jj,qb,j9,qa,q12,ze,B0,reduceIte,reduceEqDiff]
   refine zf (t:=(!(zt v_1.Leader 0 (IntKind.wrap .i64 ((List.length v_0.Servers:Int) - 1))))) (fun hc85=>?_) (fun hc85=>?_)
   ·rw [iteT hc85] at hk66
    simp only [qg,qf,run_build,evp,B0,reduceIte,reduceEqDiff]
    refine qh (v := .agg [.nil,.nil,.nil]) rfl ?_
    simp only [f79,zl,B0,reduceIte,reduceEqDiff]
    refine q9 (us:=[.nil,.nil,.nil]) rfl (cs':=[.nil,.nil,.nil]) hS76 hW rfl rfl (nle rfl) rfl (fun h86 hS87=>?_)
    simp only [qd,qa,za,B0,reduceIte,reduceEqDiff]
    have e88:=qk hk66
    subst e88
    have hk58':=hk58
    dsimp only [jnO] at hk58'
    apply hR61
    have he:=qk hk58'
    subst he
    refine jt (qm (j6 (bb:=b9) (oo:=0) (v := .agg [.nil,.nil,
      .nil]) (f79) ((zz (Sep.bk _ _ _ hS87)).trans rfl)) (qm (yn (v := .bool false) (rfl)) qz)) ?_
    exact ⟨.nil,[],.nil,[],.nil,[],by first | trivial | rfl,SlN.nil,SlF.nil,SlF.nil,
      ((Sep.dc ((Sep.dc ((Sep.dc ((Sep.dc ((Sep.dc (hS87)))))))))) : Sep _ (geL h.length) ([]))⟩
   rw [iteF hc85] at hk66
   simp only [zi,q6u,qg,qf,f80,qt,qb,Nat.reduceAdd,Nat.zero_add,Nat.add_zero,q8,qo,B0,reduceIte,reduceEqDiff]
   refine qh (v:=v20) ((jh (Sep.bk _ _ _ (Sep.m1 hS76))).trans rfl) ?_
   simp only [f78,qt,qb,Nat.reduceAdd,Nat.zero_add,Nat.add_zero,qu,qo,B0,reduceIte,reduceEqDiff]
   refine qh (v := .int .i64 v_1.Leader) rfl ?_
   obtain ⟨x89,hx90,hF91⟩:=qj hk66
   simp only [jr,B0,reduceIte,reduceEqDiff]
   obtain ⟨b92,hb93⟩:=SlN.isrow hv22 (wg hx90)
   refine qh (SlN.ia hv22 hb93 hx90) ?_
   simp only [qd,qa,q0a,qg,qf,f78,qt,qb,Nat.reduceAdd,Nat.zero_add,Nat.add_zero,qu,qo,B0,reduceIte,reduceEqDiff]
   refine qh (v := .int .i64 v_1.Term) rfl ?_
   simp only [qx,qb,yh,qa,q3a,ze,B0,reduceIte,reduceEqDiff]
   refine zf (t:=(decide (v_1.Term=5))) (fun hc94=>?_) (fun hc94=>?_)
   ·rw [iteT hc94] at hF91
    obtain ⟨c97,cs98,os99,hv100,hR101,hS102⟩:=SlG.opn (SlN.toG hv22 hb93 Server.RO.len) hx90 ju Server.RO.len (Sep.m2 hS76)
    obtain ⟨v104,c105,v108,c109,hv106,hv110,rfl,rfl⟩:=hR101
    have hS103:=Sep.no2 hS102
    simp only [q0f,qg,qf,qd,wx,qb,z9,qt,Nat.reduceAdd,Nat.zero_add,Nat.add_zero,q8,zl,B0,reduceIte,reduceEqDiff]
    refine y7 (n:=6) (us:=[.bool false]) (cs:=[.int .i64 x89.Term,.int .i64 x89.Voted,.bool x89.Stands,.bool x89.Leads,v104,
      v108]) (o:=2) (cs':=[.int .i64 x89.Term,.int .i64 x89.Voted,.bool false,.bool x89.Leads,v104,
      v108]) rfl hv100 rfl hx90 hS103 hW rfl rfl (nle rfl) rfl (fun c112 h95 hv113 hS96=>?_)
    simp only [qa,q6g,qg,qf,qd,wx,qb,z9,qt,Nat.reduceAdd,Nat.zero_add,Nat.add_zero,q8,zl,B0,reduceIte,
      reduceEqDiff]
    refine y7 (n:=6) (us:=[.bool false]) (cs:=[.int .i64 x89.Term,.int .i64 x89.Voted,.bool false,.bool x89.Leads,v104,
      v108]) (o:=3) (cs':=[.int .i64 x89.Term,.int .i64 x89.Voted,.bool false,.bool false,v104,
      v108]) rfl hv113 rfl hx90 hS96 hW rfl rfl (nle rfl) rfl (fun c116 h114 hv117 hS115=>?_)
    simp only [qa,q3w,qg,qf,qd,wx,qb,z9,qt,Nat.reduceAdd,Nat.zero_add,Nat.add_zero,q8,zl,B0,reduceIte,
      reduceEqDiff]
    refine y7 (n:=6) (us:=[.nil]) (cs:=[.int .i64 x89.Term,.int .i64 x89.Voted,.bool false,.bool false,v104,v108]) (o:=4) (cs':=[.int .i64 x89.Term,
      .int .i64 x89.Voted,.bool false,.bool false,.nil,v108]) rfl hv117 rfl hx90 hS115 hW rfl rfl (nle rfl) rfl (fun c120 h118 hv121 hS119=>?_)
    simp only [qa,qg,qf,f80,qo,B0,reduceIte,reduceEqDiff]
    refine qh (v := .agg [v20,v24,v28]) ((zz (Sep.bk _ _ _ (Sep.m4 hS119))).trans rfl) ?_
    simp only [f79,zl,B0,reduceIte,reduceEqDiff]
    refine q9 (us:=[v20,v24,v28]) rfl (cs':=[v20,v24,
      v28]) (Sep.m3 hS119) hW rfl (qq (SlG.one hv121) (qq (SlF.one hv26) (qq (SlF.one hv30) zo))) (nle rfl) rfl (fun h122 hS123=>?_)
    simp only [qd,qa,za,B0,reduceIte,reduceEqDiff]
    have e124:=qk hF91
    subst e124
    have hk58':=hk58
    dsimp only [jnO] at hk58'
    apply hR61
    obtain ⟨c125,hv126,hS127⟩:=SlG.cls (e':=(Server.mk x89.Term x89.Voted false false [] x89.Log)) (c:=c120) (os:=[]++(c109)) hv121 rfl hx90 ju (Server.RI
      (x:=(Server.mk x89.Term x89.Voted false false [] x89.Log)) SlF.nil hv110) (Sep.ni2 (c1:=[]) (c2:=c109) (S:=([Blk1 b9 [v20,v24,
      v28] 31]++(c105++([Blk1 b37 [v20,v24,v28] 31]++(c25++(c29++([]))))))) ((Sep.m2 (Sep.m3 hS123)) : Sep _ (geL h.length) (c120++(c109++([Blk1 b9 [v20,
      v24,v28] 31]++(c105++([Blk1 b37 [v20,v24,v28] 31]++(c25++(c29++([]))))))))))
    have hx128:=wq (x':=(Server.mk x89.Term x89.Voted false false [] x89.Log)) hx90
    have hv129:=SlG.toN hv126
    have he:=qk hk58'
    subst he
    refine jt (qm (j6 (bb:=b9) (oo:=0) (v := .agg [v20,v24,
      v28]) (f79) ((zz (Sep.bk _ _ _ (Sep.m1 hS127))).trans rfl)) (qm (yn (v := .bool true) (rfl)) qz)) ?_
    exact ⟨v20,c125,v24,c25,v28,c29,by first | trivial | rfl,hv129,hv26,hv30,(Sep.m2 (Sep.m2 (Sep.m2 (Sep.dc (Sep.m1 (Sep.dc (Sep.m1 (Sep.dc (Sep.m1 hS127)))))))))⟩
   rw [iteF hc94] at hF91
   simp only [zi,q2b,qf,f78,qt,qb,Nat.reduceAdd,Nat.zero_add,Nat.add_zero,qu,qo,B0,reduceIte,reduceEqDiff]
   refine qh (v := .int .i64 v_1.Leader) rfl ?_
   obtain ⟨v130,hx131,hF132⟩:=qj hF91
   simp only [f80,qv,B0,reduceIte,reduceEqDiff]
   refine kg rfl (qih hW b37 v17 v20 c21 hv22 v24 c25 hv26 v28 c29 hv30 v_1.Leader v130 hx131 (Sep.m4 (Sep.m4 (Sep.m4 (Sep.m4 hS76))))) ?_
   rintro _ h143 ⟨c133,v135,c136,v139,c140,rfl,hv134,hv137,hv141,hS144⟩
   simp only [qd,qa,um,qn,B0,reduceIte,reduceEqDiff]
   have e145:=qk hF132
   exact hN60 _ _ ⟨_,e145.symm,v135,c136,v139,c140,c133,f79,f80,rfl,hv137,hv141,hv134,(Sep.m4 (Sep.m3 (Sep.m3 (Sep.m3 (Sep.m3 hS144)))))⟩
  rw [iteF hc84] at hk66
  simp only [qt0,qg,qf,f82,qx,qb,yh,qd,qa,qxf,ze,B0,reduceIte,reduceEqDiff]
  obtain ⟨s146,hX148,hk149⟩:=qj hk66
  refine uq (t:=(decide (v_1.Term=2))) (fun fr' h'=>fr' 2 = .ref [lst qi v_0.Servers,lst qe v_0.Post,
    lst ql v_0.Led] 0∧fr' 3 = .ref [.int .i64 v_1.Term,
    .int .i64 v_1.Leader] 0∧fr' 4 = .ptr b9 0∧fr' 6 = .ptr b37 0∧fr' 7 = .bool false∧fr' 47 = .bool s146∧Sep h' (geL h.length) ([Blk1 b9 [.nil,.nil,
    .nil] 31]++([Blk1 b37 [v20,v24,v28] 31]++(c21++(c25++(c29++([]))))))) (fun Q150 hN151 hR152 hE153=>⟨fun hc154=>?_,fun hc154=>?_⟩) ?_
  ·rw [iteT hc154] at hX148
   simp only [zi,qn,B0,reduceIte,reduceEqDiff]
   have e155:=qk hX148
   subst e155
   exact hN151 _ _ ⟨f77,f78,f79,f80,f81,rfl,(Sep.m4 (Sep.m4 (Sep.m4 (Sep.m4 (Sep.m4 hS76)))))⟩
  ·rw [iteF hc154] at hX148
   simp only [qse,qg,qf,f82,qx,qb,yh,qd,qa,qtx,ze,B0,reduceIte,reduceEqDiff]
   refine zf (t:=(decide (v_1.Term=3))) (fun hc156=>?_) (fun hc156=>?_)
   ·rw [iteT hc156] at hX148
    simp only [zi,qn,B0,reduceIte,reduceEqDiff]
    have e157:=qk hX148
    subst e157
    exact hN151 _ _ ⟨f77,f78,f79,f80,f81,rfl,(Sep.m4 (Sep.m4 (Sep.m4 (Sep.m4 (Sep.m4 hS76)))))⟩
   rw [iteF hc156] at hX148
   simp only [qf,f82,qx,qb,yh,qd,qa,qn,B0,reduceIte,reduceEqDiff]
   have e158:=qk hX148
   subst e158
   exact hN151 _ _ ⟨f77,f78,f79,f80,f81,rfl,(Sep.m4 (Sep.m4 (Sep.m4 (Sep.m4 (Sep.m4 hS76)))))⟩
  rintro fr159 h160 ⟨f162,f163,f164,f165,f166,f167,hS161⟩
  unfold kz at hk149
  simp only [qxp,f167,ze,B0,reduceIte,reduceEqDiff]
  refine zf (t:=s146) (fun hc168=>?_) (fun hc168=>?_)
  ·rw [iteT hc168] at hk149
   simp only [qrz,qg,qf,f163,qt,qb,Nat.reduceAdd,Nat.zero_add,Nat.add_zero,qu,qo,B0,reduceIte,reduceEqDiff]
   refine qh (v := .int .i64 v_1.Leader) rfl ?_
   simp only [f162,qt,qb,Nat.reduceAdd,Nat.zero_add,Nat.add_zero,qu,qo,B0,reduceIte,reduceEqDiff]
   refine qh (v:=lst qe v_0.Post) rfl ?_
   simp only [zr,qb,zx,qx,qbd,qv,B0,reduceIte,reduceEqDiff]
   refine je rfl (qm zb (qm zb (qm zb qz))) (wi (fun b hb=>decide_eq_true hb) v_1.Leader 0 (IntKind.wrap .i64
     ((List.length v_0.Post:Int) - 1)) _ rfl) ?_
   simp only [jj,qb,j9,qa,qul,ze,B0,reduceIte,reduceEqDiff]
   refine zf (t:=(!(zt v_1.Leader 0 (IntKind.wrap .i64 ((List.length v_0.Post:Int) - 1))))) (fun hc169=>?_) (fun hc169=>?_)
   ·rw [iteT hc169] at hk149
    simp only [qg,qf,run_build,evp,B0,reduceIte,reduceEqDiff]
    refine qh (v := .agg [.nil,.nil,.nil]) rfl ?_
    simp only [f164,zl,B0,reduceIte,reduceEqDiff]
    refine q9 (us:=[.nil,.nil,.nil]) rfl (cs':=[.nil,.nil,.nil]) hS161 hW rfl rfl (nle rfl) rfl (fun h170 hS171=>?_)
    simp only [qd,qa,za,B0,reduceIte,reduceEqDiff]
    have e172:=qk hk149
    subst e172
    have hk58':=hk58
    dsimp only [jnO] at hk58'
    apply hR61
    have he:=qk hk58'
    subst he
    refine jt (qm (j6 (bb:=b9) (oo:=0) (v := .agg [.nil,.nil,
      .nil]) (f164) ((zz (Sep.bk _ _ _ hS171)).trans rfl)) (qm (yn (v := .bool false) (rfl)) qz)) ?_
    exact ⟨.nil,[],.nil,[],.nil,[],by first | trivial | rfl,SlN.nil,SlF.nil,SlF.nil,
      ((Sep.dc ((Sep.dc ((Sep.dc ((Sep.dc ((Sep.dc (hS171)))))))))) : Sep _ (geL h.length) ([]))⟩
   rw [iteF hc169] at hk149
   simp only [zi,qxl,qg,qf,f162,qt,qb,Nat.reduceAdd,Nat.zero_add,Nat.add_zero,qu,qo,B0,reduceIte,reduceEqDiff]
   refine qh (v:=lst qe v_0.Post) rfl ?_
   simp only [f163,qt,qb,Nat.reduceAdd,Nat.zero_add,Nat.add_zero,qu,qo,B0,reduceIte,reduceEqDiff]
   refine qh (v := .int .i64 v_1.Leader) rfl ?_
   obtain ⟨x173,hx174,hF175⟩:=qj hk149
   simp only [jr,B0,reduceIte,reduceEqDiff]
   refine qh (v := .ref (qe x173) 0) (yl hx174 rfl) ?_
   simp only [qo,B0,reduceIte,reduceEqDiff]
   refine qh (v := .agg [.int .i64 x173.To,.int .i64 x173.From,.int .i64 x173.Term,.bool x173.Asks,.int .i64 x173.Last,.int .i64 x173.Long,.bool x173.Grant]) rfl ?_
   simp only [jg,B0,reduceIte,reduceEqDiff]
   refine zw hS161 (fun b176 h177 hS178=>?_)
   simp only [zl,B0,reduceIte,reduceEqDiff]
   refine q9 (us:=[.int .i64 x173.To,.int .i64 x173.From,.int .i64 x173.Term,.bool x173.Asks,.int .i64 x173.Last,.int .i64 x173.Long,
     .bool x173.Grant]) rfl (cs':=[.int .i64 x173.To,.int .i64 x173.From,.int .i64 x173.Term,.bool x173.Asks,.int .i64 x173.Last,.int .i64 x173.Long,
     .bool x173.Grant]) hS178 hW rfl rfl (nle rfl) rfl (fun h180 hS181=>?_)
   simp only [qa,B0,reduceIte,reduceEqDiff]
   refine zy hS181 hW (by simp only [B0,reduceIte,reduceEqDiff]) (fun h182 hS183=>?_)
   simp only [zv,qs0,qg,qf,f163,qt,qb,Nat.reduceAdd,Nat.zero_add,Nat.add_zero,qu,qo,B0,reduceIte,reduceEqDiff]
   refine qh (v := .int .i64 v_1.Term) rfl ?_
   simp only [qx,qb,yh,qa,qud,ze,B0,reduceIte,reduceEqDiff]
   refine zf (t:=(decide (v_1.Term=4))) (fun hc184=>?_) (fun hc184=>?_)
   ·rw [iteT hc184] at hF175
    simp only [qt9,qg,qf,f162,qt,qb,Nat.reduceAdd,Nat.zero_add,Nat.add_zero,qu,qo,B0,reduceIte,reduceEqDiff]
    refine qh (v:=lst qe v_0.Post) rfl ?_
    simp only [zr,qb,zx,qx,qdj,qd,qa,qtc,qg,qf,f165,qt,Nat.reduceAdd,Nat.zero_add,Nat.add_zero,q8,
      qo,B0,reduceIte,reduceEqDiff]
    refine qh (v:=v24) ((jh (Sep.bk _ _ _ (Sep.m1 hS183))).trans rfl) ?_
    simp only [qo,B0,reduceIte,reduceEqDiff]
    refine qh (v := .agg [.int .i64 x173.To,.int .i64 x173.From,.int .i64 x173.Term,.bool x173.Asks,.int .i64 x173.Last,.int .i64 x173.Long,.bool x173.Grant]) rfl ?_
    simp only [j8,evp,B0,reduceIte,reduceEqDiff]
    refine jy (n:=7) (f:=qe) [x173] hS183 rfl rfl (fun v185 c186 h187 hv188 hS189=>?_)
    simp only [wu,B0,reduceIte,reduceEqDiff]
    obtain ⟨l191,hx192,hF193⟩:=qj hF175
    refine yx (f:=qe) hv26 (Sep.m4 hS189) hW (fun _=>rfl) (fun _=>rfl) (SlF.first hv188 hS189 (fun _=>rfl)) hx192
      (fun v194 c195 h196 hv197 hS198=>?_)
    simp only [f165,qt,qb,Nat.reduceAdd,Nat.zero_add,Nat.add_zero,q8,zl,B0,reduceIte,reduceEqDiff]
    refine q9 (us:=[v194]) (js (SlF.one hv197)) (cs':=[v20,v194,
      v28]) (Sep.m3 hS198) hW rfl (qq (SlF.one hv197) zo) (nle rfl) rfl (fun h200 hS201=>?_)
    simp only [qa,qdz,qc9,qil,reduceIte,qn,B0,reduceEqDiff]
    have e202:=qk hF193
    exact hN60 _ _ ⟨_,e202.symm,v194,c195,v28,c29,c21,f164,f165,rfl,hv197,hv30,hv22,(Sep.m4 (Sep.m3 (Sep.m4 (Sep.m2 (Sep.m4 (Sep.dc (Sep.m2 hS201)))))))⟩
   rw [iteF hc184] at hF175
   simp only [zi,qs4,qg,qf,qd,qa,qu5,f165,qt,qb,Nat.reduceAdd,Nat.zero_add,Nat.add_zero,q8,qo,B0,
     reduceIte,reduceEqDiff]
   refine qh (v:=v24) ((jh (Sep.bk _ _ _ (Sep.m1 hS183))).trans rfl) ?_
   simp only [f163,qt,qb,Nat.reduceAdd,Nat.zero_add,Nat.add_zero,qu,qo,B0,reduceIte,reduceEqDiff]
   refine qh (v := .int .i64 v_1.Leader) rfl ?_
   simp only [f163,qt,qb,Nat.reduceAdd,Nat.zero_add,Nat.add_zero,qu,qo,B0,reduceIte,reduceEqDiff]
   refine qh (v := .int .i64 v_1.Leader) rfl ?_
   obtain ⟨v203,hx204,hF205⟩:=qj hF175
   simp only [qx,qb,qam,qv,B0,reduceIte,reduceEqDiff]
   refine kg rfl (qia hW v24 c25 v17.Post hv26 v_1.Leader (IntKind.wrap .i64 (v_1.Leader+1)) v203 hx204 (Sep.m3 hS183)) ?_
   rintro v206 h210 ⟨_,c207,rfl,hv208,hS211⟩
   simp only [f165,qt,qb,Nat.reduceAdd,Nat.zero_add,Nat.add_zero,q8,zl,B0,reduceIte,reduceEqDiff]
   refine q9 (us:=[v206]) (js (SlF.one hv208)) (cs':=[v20,v206,v28]) (Sep.m2 hS211) hW rfl (qq (SlF.one hv208) zo) (nle rfl) rfl (fun h212 hS213=>?_)
   simp only [qa,qwt,qg,qf,f163,qt,qb,Nat.reduceAdd,Nat.zero_add,Nat.add_zero,qu,qo,B0,reduceIte,reduceEqDiff]
   refine qh (v := .int .i64 v_1.Term) rfl ?_
   simp only [qx,qb,yh,qa,qu8,ze,B0,reduceIte,reduceEqDiff]
   refine zf (t:=(decide (v_1.Term=2))) (fun hc214=>?_) (fun hc214=>?_)
   ·rw [iteT hc214] at hF205
    simp only [qf,qo,B0,reduceIte,reduceEqDiff]
    refine qh (v := .agg [.int .i64 x173.To,.int .i64 x173.From,.int .i64 x173.Term,.bool x173.Asks,.int .i64 x173.Last,.int .i64 x173.Long,.bool x173.Grant]) rfl ?_
    obtain ⟨v215,hx216,hF217⟩:=qj hF205
    simp only [f165,qv,B0,reduceIte,reduceEqDiff]
    refine kg rfl (qiw hW k b37 (Election.mk v17.Servers v203 v17.Led) v20 c21 hv22 v206 c207 hv208 v28 c29 hv30 x173 v215 hx216 (Sep.m3 (Sep.m4 (Sep.m2
      (Sep.m4 hS213))))) ?_
    rintro _ h228 ⟨c218,v220,c221,v224,c225,rfl,hv219,hv222,hv226,hS229⟩
    simp only [qa,um,qn,B0,reduceIte,reduceEqDiff]
    have e230:=qk hF217
    exact hN60 _ _ ⟨_,e230.symm,v220,c221,v224,c225,c218,f164,f165,rfl,hv222,hv226,hv219,(Sep.m4 (Sep.m3 (Sep.m3 (Sep.m3 (Sep.m3 hS229)))))⟩
   rw [iteF hc214] at hF205
   simp only [zi,um,qn,B0,reduceIte,reduceEqDiff]
   have e231:=qk hF205
   exact hN60 _ _ ⟨_,e231.symm,v206,c207,v28,c29,c21,f164,f165,rfl,hv208,hv30,hv22,(Sep.m4 (Sep.m3 (Sep.m4 (Sep.m2 (Sep.m4 hS213)))))⟩
  rw [iteF hc168] at hk149
  simp only [zi,um,qn,B0,reduceIte,reduceEqDiff]
  have e232:=qk hk149
  exact hN60 _ _ ⟨_,e232.symm,v24,c25,v28,c29,c21,f164,f165,f166,hv26,hv30,hv22,(Sep.m4 (Sep.m4 (Sep.m4 (Sep.m4 (Sep.m4 hS161)))))⟩
 rintro fr235 h236 ⟨⟨s43,s44,s53⟩,rfl,v46,c47,v50,c51,c54,f238,f239,f240,hv48,hv52,hv55,hS237⟩
 dsimp only [jnO] at hk58
 dsimp only at *
 unfold wl at hk58
 simp only [qw1,qg,qf,f240,qd,jj,qb,j9,B0,reduceIte,reduceEqDiff]
 obtain ⟨v244,hx245,hF246⟩:=qj hk58
 refine z7 4 (fun fr' h'=>Sep h' (geL h.length) ([Blk1 b9 [.nil,.nil,.nil] 31]++([Blk1 b37 [v20,v46,
   v50] 31]++(c54++(c47++(c51++([]))))))∧fr' 99 = .bool v244∧fr' 4 = .ptr b9 0∧fr' 6 = .ptr b37 0) (fun Q241 hN242=>?_) ?_
 ·simp only [List.take_succ_cons,List.take_zero]
  simp only [qc (g:=95),B0,reduceIte,reduceEqDiff]
  refine qy (t:=(!s43)) (fun hg243=>?_) (fun hg243=>?_)
  ·rw [iteT hg243] at hx245
   simp only [hg243,qc (g:=95),zq,qs,qb,zj,qa,qn,B0,reduceIte,reduceEqDiff]
   have e247:=qk hx245
   exact hN242 _ _ ⟨(Sep.m4 (Sep.m4 (Sep.m4 (Sep.m4 (Sep.m4 hS237))))),by rw [←e247]; simp only [B0,reduceIte,reduceEqDiff],f238,f239⟩
  ·rw [iteF hg243] at hx245
   simp only [hg243,qc (g:=95),qp,f239,qo,B0,reduceIte,reduceEqDiff]
   refine qh (v := .agg [v20,v46,v50]) ((zz (Sep.bk _ _ _ (Sep.m1 hS237))).trans rfl) ?_
   obtain ⟨v248,hx249,hF250⟩:=qj hx245
   simp only [hg243,qc (g:=95),qp,qv,B0,reduceIte,reduceEqDiff]
   refine je rfl (qm (jm (qm (SlN.snap hv55 _ (Sep.m2 hS237) rfl Server.RO) (qm (SlF.snap hv48 (Sep.m3 hS237) rfl (fun _=>rfl) (fun _=>rfl)) (qm
     (SlF.snap hv52 (Sep.m4 hS237) rfl (fun _=>rfl) (fun _=>rfl)) qz)))) qz) (qa2 (fun b hb=>decide_eq_true hb)
     (Election.mk s53 s44.Post s44.Led) v248 hx249) ?_
   simp only [hg243,qc (g:=95),qp,jj,qb,j9,qs,zk,qa,qn,B0,reduceIte,reduceEqDiff]
   have e251:=qk hF250
   exact hN242 _ _ ⟨(Sep.m4 (Sep.m4 (Sep.m4 (Sep.m4 (Sep.m4 hS237))))),by rw [←e251]; simp only [B0,reduceIte,reduceEqDiff],f238,f239⟩
 rintro fr252 h256 ⟨hS257,f253,f254,f255⟩
 simp only [List.drop_succ_cons,List.drop_zero]
 simp only [qa,qtz,f253,ze,B0,reduceIte,reduceEqDiff]
 refine zf (t:=v244) (fun hc258=>?_) (fun hc258=>?_)
 ·rw [iteT hc258] at hF246
  simp only [qg,qf,run_build,evp,B0,reduceIte,reduceEqDiff]
  refine qh (v := .agg [.nil,.nil,.nil]) rfl ?_
  simp only [f254,zl,B0,reduceIte,reduceEqDiff]
  refine q9 (us:=[.nil,.nil,.nil]) rfl (cs':=[.nil,.nil,.nil]) hS257 hW rfl rfl (nle rfl) rfl (fun h259 hS260=>?_)
  simp only [qd,qa,za,B0,reduceIte,reduceEqDiff]
  have he:=qk hF246
  subst he
  refine jt (qm (j6 (bb:=b9) (oo:=0) (v := .agg [.nil,.nil,
    .nil]) (f254) ((zz (Sep.bk _ _ _ hS260)).trans rfl)) (qm (yn (v := .bool false) (rfl)) qz)) ?_
  exact ⟨.nil,[],.nil,[],.nil,[],by first | trivial | rfl,SlN.nil,SlF.nil,SlF.nil,
    ((Sep.dc ((Sep.dc ((Sep.dc ((Sep.dc ((Sep.dc (hS260)))))))))) : Sep _ (geL h.length) ([]))⟩
 rw [iteF hc258] at hF246
 simp only [zi,qg,qf,f255,qo,B0,reduceIte,reduceEqDiff]
 refine qh (v := .agg [v20,v46,v50]) ((zz (Sep.bk _ _ _ (Sep.m1 hS257))).trans rfl) ?_
 simp only [f254,zl,B0,reduceIte,reduceEqDiff]
 refine q9 (us:=[v20,v46,v50]) rfl (cs':=[v20,v46,
   v50]) hS257 hW rfl (qq (SlN.one hv55) (qq (SlF.one hv48) (qq (SlF.one hv52) zo))) (nle rfl) rfl (fun h261 hS262=>?_)
 simp only [qd,qa,za,B0,reduceIte,reduceEqDiff]
 have he:=qk hF246
 subst he
 refine jt (qm (j6 (bb:=b9) (oo:=0) (v := .agg [v20,v46,
   v50]) (f254) ((zz (Sep.bk _ _ _ hS262)).trans rfl)) (qm (yn (v := .bool true) (rfl)) qz)) ?_
 exact ⟨v20,c54,v46,c47,v50,c51,by first | trivial | rfl,hv55,hv48,hv52,(Sep.m2 (Sep.m2 (Sep.m2 (Sep.dc ((Sep.dc (hS262)))))))⟩
theorem qjh {W:Nat→Bool}{h:Heap} (hW:∀ b,
  (geL h.length) b→W b=true) (k:Nat) (e_0:Election) (x_1:ElectStep) (r:Election × Bool)
  (hF:qax k e_0 x_1=some r) : Ret E W 16 [.agg [lst qi e_0.Servers,lst qe e_0.Post,lst ql e_0.Led],.agg [.int .i64 x_1.Term,
  .int .i64 x_1.Leader]] h (fun v h'=>∃ rv0_0 rc0_0 rv0_1 rc0_1 rv0_2 rc0_2,v = .tup [.agg [rv0_0,rv0_1,rv0_2],
  .bool r.2]∧SlN Server.R 6 46 rv0_0 r.1.Servers rc0_0∧SlF qe 7 93 rv0_1 r.1.Post rc0_1∧SlF ql 2 39 rv0_2 r.1.Led rc0_2∧Sep h' (geL h.length)
  (rc0_0++(rc0_1++(rc0_2++([]))))):=by
 refine Ret.of (fn:=x16) rfl (Run.of ?_)
 unfold qax at hF
 have zf0:zh [.agg [lst qi e_0.Servers,lst qe e_0.Post,lst ql e_0.Led],.agg [.int .i64 x_1.Term,
   .int .i64 x_1.Leader]] 0 = .agg [lst qi e_0.Servers,lst qe e_0.Post,lst ql e_0.Led]:=rfl
 have zf1:zh [.agg [lst qi e_0.Servers,lst qe e_0.Post,lst ql e_0.Led],.agg [.int .i64 x_1.Term,
   .int .i64 x_1.Leader]] 1 = .agg [.int .i64 x_1.Term,.int .i64 x_1.Leader]:=rfl
 generalize zh [.agg [lst qi e_0.Servers,lst qe e_0.Post,lst ql e_0.Led],.agg [.int .i64 x_1.Term,.int .i64 x_1.Leader]]=fr0 at zf0 zf1 ⊢
 have hS:Sep h (geL h.length) []:=Sep.nil h
 simp only [x16,qg,qf,kc,zf0,B0,reduceIte,reduceEqDiff]
 refine jo (cs:=[lst qi e_0.Servers,lst qe e_0.Post,lst ql e_0.Led]) hS rfl rfl rfl (fun b1 h2 hS3=>?_)
 simp only [kc,zf1,B0,reduceIte,reduceEqDiff]
 refine jo (cs:=[.int .i64 x_1.Term,.int .i64 x_1.Leader]) hS3 rfl rfl rfl (fun b5 h6 hS7=>?_)
 simp only [jg,B0,reduceIte,reduceEqDiff]
 refine zw hS7 (fun b9 h10 hS11=>?_)
 simp only [qd,qa,B0,reduceIte,reduceEqDiff]
 refine zy (Sep.m2 hS11) hW (by simp only [B0,reduceIte,reduceEqDiff]) (fun h13 hS14=>?_)
 refine zy (Sep.m1 hS14) hW (by simp only [B0,reduceIte,reduceEqDiff]) (fun h15 hS16=>?_)
 simp only [zv,q7c,qg,qf,qo,B0,reduceIte,reduceEqDiff]
 refine qh (v := .agg [lst qi e_0.Servers,lst qe e_0.Post,lst ql e_0.Led]) rfl ?_
 obtain ⟨v17,hx18,hF19⟩:=qj hF
 simp only [qv,B0,reduceIte,reduceEqDiff]
 refine je rfl (qm (jm (qm zm (qm zm (qm zm qz)))) qz) (qa2 (fun b hb=>decide_eq_true hb) e_0 v17 hx18) ?_
 simp only [jj,qb,j9,qa,q3p,ze,B0,reduceIte,reduceEqDiff]
 refine zf (t:=(!v17)) (fun hc20=>?_) (fun hc20=>?_)
 ·rw [iteT hc20] at hF19
  simp only [qg,qf,run_build,evp,B0,reduceIte,reduceEqDiff]
  refine qh (v := .agg [.nil,.nil,.nil]) rfl ?_
  simp only [zl,B0,reduceIte,reduceEqDiff]
  refine q9 (us:=[.nil,.nil,.nil]) rfl (cs':=[.nil,.nil,.nil]) hS16 hW rfl rfl (nle rfl) rfl (fun h21 hS22=>?_)
  simp only [qd,qa,za,B0,reduceIte,reduceEqDiff]
  have he:=qk hF19
  subst he
  refine jt (qm (j6 (bb:=b9) (oo:=0) (v := .agg [.nil,.nil,
    .nil]) (rfl) ((zz (Sep.bk _ _ _ hS22)).trans rfl)) (qm (yn (v := .bool false) (rfl)) qz)) ?_
  exact ⟨.nil,[],.nil,[],.nil,[],by first | trivial | rfl,SlN.nil,SlF.nil,SlF.nil,((Sep.dc (hS22)) : Sep _ (geL h.length) ([]))⟩
 rw [iteF hc20] at hF19
 simp only [zi,q0h,qg,qf,qo,B0,reduceIte,reduceEqDiff]
 refine qh (v := .agg [lst qi e_0.Servers,lst qe e_0.Post,lst ql e_0.Led]) rfl ?_
 simp only [qo,B0,reduceIte,reduceEqDiff]
 refine qh (v := .agg [.int .i64 x_1.Term,.int .i64 x_1.Leader]) rfl ?_
 obtain ⟨v23,hx24,hF25⟩:=qj hF19
 simp only [qv,B0,reduceIte,reduceEqDiff]
 refine qb7 rfl hS16 (qm (jm (qm zm (qm zm (qm zm qz)))) (qm (jm (qm zb (qm zb qz))) qz))
   (qi2 (fun b hb=>decide_eq_true hb) k e_0 x_1 v23 hx24) ?_
 rintro _ h38 ⟨v26,c27,v30,c31,v34,c35,rfl,hv28,hv32,hv36,hS39⟩
 refine ⟨_,qcv (qq (qbw (qq (SlN.free1 hv28) (qq (SlF.free1 hv32) (qq (SlF.free1 hv36) zo)))) (qq rfl zo)),hS39,
   (jq (SlN.pf hv28 Server.RO) (jq (SlF.pf hv32 (fun _=>rfl)) (jq (SlF.pf hv36 (fun _=>rfl)) uf))),fun h40 hS41=>?_⟩
 have hS42:Sep h40 (geL h.length) (c27++(c31++(c35++([Blk1 b9 [.nil,.nil,.nil] 31]++([]))))):=by simpa only [List.append_assoc,List.nil_append] using hS41
 simp only [yu,qb,yz,yy,zl,B0,reduceIte,reduceEqDiff]
 refine q9 (us:=[v26,v30,v34]) rfl (cs':=[v26,v30,
   v34]) (Sep.m3 hS42) hW rfl (qq (SlN.one hv28) (qq (SlF.one hv32) (qq (SlF.one hv36) zo))) (nle rfl) rfl (fun h43 hS44=>?_)
 simp only [qd,qa,za,B0,reduceIte,reduceEqDiff]
 have he:=qk hF25
 subst he
 refine jt (qm (j6 (bb:=b9) (oo:=0) (v := .agg [v26,v30,
   v34]) (rfl) ((zz (Sep.bk _ _ _ hS44)).trans rfl)) (qm (yn (v := .bool v23.2) (rfl)) qz)) ?_
 exact ⟨v26,c27,v30,c31,v34,c35,by first | trivial | rfl,hv28,hv32,hv36,(Sep.m2 (Sep.m2 (Sep.m2 (Sep.dc (hS44)))))⟩
theorem qmk {W:Nat→Bool}{h:Heap} (hW:∀ b,
  (geL h.length) b→W b=true) (l_0:List Int) (many_1:Int) (r:Bool) (hF:qdw l_0 many_1=some r) : Ret E W 102 [lst cI l_0,
  .int .i64 many_1] h (fun v h'=>cut h.length h' E.sz false 9 v=some (.bool r)):=by
 refine Ret.of (fn:=qq3) rfl (Run.of ?_)
 unfold qdw at hF
 have zf0:zh [lst cI l_0,.int .i64 many_1] 0=lst cI l_0:=rfl
 have zf1:zh [lst cI l_0,.int .i64 many_1] 1 = .int .i64 many_1:=rfl
 generalize zh [lst cI l_0,.int .i64 many_1]=fr0 at zf0 zf1 ⊢
 have hS:Sep h (geL h.length) []:=Sep.nil h
 simp only [qq3,qg,qf,qd,qa,qvh,zf0,zr,qb,zx,B0,reduceIte,reduceEqDiff]
 obtain ⟨oc3,hX5,hk6⟩:=kn hF
 simp only [qvq]
 refine wb (σ:=Unit) l_0 (fun i1 x2 _=>qdo l_0 many_1 i1 x2 ) (fun s fr' h'=>fr' 0=lst cI l_0∧fr' 1 = .int .i64 many_1∧fr' 7=lst cI l_0∧Sep h'
   (geL h.length) ([])) hX5 ⟨zf0,zf1,rfl,hS⟩ (by simp only [B0,reduceIte,reduceEqDiff]) (by simp only [B0,reduceIte,
   reduceEqDiff]) (fun _ _ _ h=>h) rfl rfl (fun _ _ _ _ h=>h) (fun _ _ _ _ h=>h) (fun _ _ _ _ h=>h) (by decide) ?_ ?_
 ·rintro i1 x2 _ fr15 h16 hx21 ⟨f18,f19,f20,hS17⟩ f22 f23 oc4 hF7 hr8 Q9 hN10 hB14 hK11 hR12 hE13
  unfold qdo at hF7
  simp only [qui,qg,qf,f22,qd,f20,jr,B0,reduceIte,reduceEqDiff]
  refine qh (v := .ref (cI x2) 0) (wc hx21 rfl) ?_
  simp only [qo,B0,reduceIte,reduceEqDiff]
  refine qh (v := .int .i64 x2) rfl ?_
  simp only [qd,qa,qvf,qg,qf,qx,qb,qdj,B0,reduceIte,reduceEqDiff]
  refine z7 4 (fun fr' h'=>Sep h' (geL h.length) ([])∧fr' 20 = .bool ((decide (x2<0))||(decide
    (many_1≤x2)))∧fr' 0=lst cI l_0∧fr' 1 = .int .i64 many_1∧fr' 5 = .int .i64 (i1:Int)∧fr' 6 = .int .i64 x2∧fr' 7=lst cI l_0∧fr' 8 = .int .i64
    (List.length l_0:Int)∧fr' 9 = .int .i64 (i1:Int)) (fun Q24 hN25=>?_) ?_
  ·simp only [List.take_succ_cons,List.take_zero]
   simp only [qc (g:=16),B0,reduceIte,reduceEqDiff]
   refine qy (t:=(decide (x2<0))) (fun hg26=>?_) (fun hg26=>?_)
   ·simp only [hg26,qc (g:=16),zq,qs,qb,zj,qa,qn,B0,reduceIte,reduceEqDiff]
    exact hN25 _ _ ⟨hS17,by rw [orT hg26]; simp only [B0,reduceIte,reduceEqDiff],f18,f19,rfl,rfl,f20,f23,f22⟩
   ·simp only [hg26,qc (g:=16),qp,qd,f19,qx,qb,qh4,qs,zk,qa,qn,B0,reduceIte,reduceEqDiff]
    exact hN25 _ _ ⟨hS17,by rw [orF hg26]; simp only [B0,reduceIte,reduceEqDiff],f18,f19,rfl,rfl,f20,f23,f22⟩
  rintro fr27 h36 ⟨hS37,f28,f29,f30,f31,f32,f33,f34,f35⟩
  simp only [List.drop_succ_cons,List.drop_zero]
  simp only [f28,qd,B0,reduceIte,reduceEqDiff]
  obtain ⟨v41,hx42,hF43⟩:=qj hF7
  refine z7 12 (fun fr' h'=>Sep h' (geL h.length) ([])∧fr' 33 = .bool v41∧fr' 0=lst cI l_0∧fr' 1 = .int .i64 many_1∧fr' 7=lst cI l_0∧fr' 8 = .int .i64
    (List.length l_0:Int)∧fr' 9 = .int .i64 (i1:Int)) (fun Q38 hN39=>?_) ?_
  ·simp only [List.take_succ_cons,List.take_zero]
   simp only [qc (g:=21),B0,reduceIte,reduceEqDiff]
   refine qy (t:=((decide (x2<0))||(decide (many_1≤x2)))) (fun hg40=>?_) (fun hg40=>?_)
   ·rw [iteT hg40] at hx42
    simp only [hg40,qc (g:=21),zq,qc (g:=24),ym,qs,qb,zj,qa,qn,B0,reduceIte,reduceEqDiff]
    have e44:=qk hx42
    exact hN39 _ _ ⟨hS37,by rw [←e44]; simp only [B0,reduceIte,reduceEqDiff],f29,f30,f33,f34,f35⟩
   ·rw [iteF hg40] at hx42
    simp only [hg40,qc (g:=21),qp,f31,qd,qx,qb,xb,B0,reduceIte,reduceEqDiff]
    obtain ⟨v48,hx49,hF50⟩:=qj hx42
    refine z7 8 (fun fr' h'=>Sep h' (geL h.length) ([])∧fr' 32 = .bool v48∧fr' 0=lst cI l_0∧fr' 1 = .int .i64 many_1∧fr' 7=lst cI l_0∧fr' 8 = .int .i64
      (List.length l_0:Int)∧fr' 9 = .int .i64 (i1:Int)∧fr' 21 = .bool ((decide (x2<0))||(decide (many_1≤x2)))) (fun Q45 hN46=>?_) ?_
    ·simp only [List.take_succ_cons,List.take_zero]
     simp only [qc (g:=24),B0,reduceIte,reduceEqDiff]
     refine qy (t:=(decide ((0:Int)<(i1:Int)))) (fun hg47=>?_) (fun hg47=>?_)
     ·rw [iteT hg47] at hx49
      obtain ⟨x51,hx52,hF53⟩:=qj hx49
      simp only [hg47,qc (g:=24),zg,f29,qd,f31,qx,qb,qbd,jr,B0,reduceIte,reduceEqDiff]
      refine qh (v := .ref (cI x51) 0) (yl hx52 rfl) ?_
      simp only [hg47,qc (g:=24),zg,qo,B0,reduceIte,reduceEqDiff]
      refine qh (v := .int .i64 x51) rfl ?_
      simp only [hg47,qc (g:=24),zg,f32,qd,qx,qb,qh4,hg40,qc (g:=21),qp,qs,zj,qa,
        qn,B0,reduceIte,reduceEqDiff]
      have e54:=qk hF53
      exact hN46 _ _ ⟨hS37,by rw [←e54]; simp only [B0,reduceIte,reduceEqDiff],f29,f30,f33,f34,f35,by simp only [hg40,B0,reduceIte,reduceEqDiff]⟩
     ·rw [iteF hg47] at hx49
      simp only [hg47,qc (g:=24),jl,hg40,qc (g:=21),qp,qs,qb,zk,qa,qn,B0,reduceIte,
        reduceEqDiff]
      have e55:=qk hx49
      exact hN46 _ _ ⟨hS37,by rw [←e55]; simp only [B0,reduceIte,reduceEqDiff],f29,f30,f33,f34,f35,by simp only [hg40,B0,reduceIte,reduceEqDiff]⟩
    rintro fr56 h64 ⟨hS65,f57,f58,f59,f60,f61,f62,f63⟩
    simp only [List.drop_succ_cons,List.drop_zero]
    simp only [f63,hg40,qs,qb,zk,f57,qa,qn,B0,reduceIte,reduceEqDiff]
    have e66:=qk hF50
    exact hN39 _ _ ⟨hS65,by rw [←e66]; simp only [B0,reduceIte,reduceEqDiff],f58,f59,f60,f61,f62⟩
  rintro fr67 h74 ⟨hS75,f68,f69,f70,f71,f72,f73⟩
  simp only [List.drop_succ_cons,List.drop_zero]
  simp only [qa,f68,ze,B0,reduceIte,reduceEqDiff]
  refine zf (t:=v41) (fun hc76=>?_) (fun hc76=>?_)
  ·rw [iteT hc76] at hF43
   simp only [qg,qf,qd,qa,za,B0,reduceIte,reduceEqDiff]
   have e77:=qk hF43
   subst e77
   have ho78:=hr8 _ rfl
   have hk79:=hk6
   rw [ho78] at hk79
   dsimp only [jnO] at hk79
   apply hR12
   have he:=qk hk79
   subst he
   simp only [zp,B0,reduceIte,reduceEqDiff]
   exact rfl
  rw [iteF hc76] at hF43
  simp only [zi,qn,B0,reduceIte,reduceEqDiff]
  have e80:=qk hF43
  exact hN10 _ _ _ e80.symm ⟨f69,f70,f71,hS75⟩ (f73) (f72)
 rintro _ fr82 h83 rfl ⟨f85,f86,f87,hS84⟩
 dsimp only [jnO] at hk6
 unfold qhx at hk6
 simp only [qg,qf,qd,qa,za,B0,reduceIte,reduceEqDiff]
 have he:=qk hk6
 subst he
 simp only [zp,B0,reduceIte,reduceEqDiff]
 exact rfl
theorem qlg {W:Nat→Bool}{h:Heap} (hW:∀ b,
  (geL h.length) b→W b=true) (e_0:Election) (s_1:Server) (r:Bool) (hF:qes e_0 s_1=some r) : Ret E W 60 [.agg [lst qi e_0.Servers,
  lst qe e_0.Post,lst ql e_0.Led],.agg [.int .i64 s_1.Term,.int .i64 s_1.Voted,.bool s_1.Stands,.bool s_1.Leads,lst cI s_1.Got,
  lst cI s_1.Log]] h (fun v h'=>cut h.length h' E.sz false 9 v=some (.bool r)):=by
 refine Ret.of (fn:=x60) rfl (Run.of ?_)
 unfold qes at hF
 have zf0:zh [.agg [lst qi e_0.Servers,lst qe e_0.Post,lst ql e_0.Led],.agg [.int .i64 s_1.Term,.int .i64 s_1.Voted,.bool s_1.Stands,
   .bool s_1.Leads,lst cI s_1.Got,lst cI s_1.Log]] 0 = .agg [lst qi e_0.Servers,lst qe e_0.Post,lst ql e_0.Led]:=rfl
 have zf1:zh [.agg [lst qi e_0.Servers,lst qe e_0.Post,lst ql e_0.Led],.agg [.int .i64 s_1.Term,.int .i64 s_1.Voted,.bool s_1.Stands,
   .bool s_1.Leads,lst cI s_1.Got,lst cI s_1.Log]] 1 = .agg [.int .i64 s_1.Term,.int .i64 s_1.Voted,.bool s_1.Stands,.bool s_1.Leads,lst cI s_1.Got,lst cI s_1.Log]:=rfl
 generalize zh [.agg [lst qi e_0.Servers,lst qe e_0.Post,lst ql e_0.Led],.agg [.int .i64 s_1.Term,.int .i64 s_1.Voted,.bool s_1.Stands,
   .bool s_1.Leads,lst cI s_1.Got,lst cI s_1.Log]]=fr0 at zf0 zf1 ⊢
 have hS:Sep h (geL h.length) []:=Sep.nil h
 simp only [x60,qg,qf,kc,zf0,B0,reduceIte,reduceEqDiff]
 refine jo (cs:=[lst qi e_0.Servers,lst qe e_0.Post,lst ql e_0.Led]) hS rfl rfl rfl (fun b1 h2 hS3=>?_)
 simp only [kc,zf1,B0,reduceIte,reduceEqDiff]
 refine jo (cs:=[.int .i64 s_1.Term,.int .i64 s_1.Voted,.bool s_1.Stands,.bool s_1.Leads,lst cI s_1.Got,lst cI s_1.Log]) hS3 rfl rfl rfl (fun b5 h6 hS7=>?_)
 simp only [qd,qa,B0,reduceIte,reduceEqDiff]
 refine zy (Sep.m1 hS7) hW (by simp only [B0,reduceIte,reduceEqDiff]) (fun h9 hS10=>?_)
 refine zy hS10 hW (by simp only [B0,reduceIte,reduceEqDiff]) (fun h11 hS12=>?_)
 simp only [zv,q0k,qg,qf,qt,qb,Nat.reduceAdd,Nat.zero_add,Nat.add_zero,qu,qo,B0,reduceIte,reduceEqDiff]
 refine qh (v := .int .i64 s_1.Term) rfl ?_
 simp only [qv,B0,reduceIte,reduceEqDiff]
 refine je rfl (qm zb (qm zb (qm zb qz))) (u7 (fun b hb=>decide_eq_true hb) s_1.Term 0 100 _ rfl) ?_
 simp only [jj,qb,j9,qd,B0,reduceIte,reduceEqDiff]
 refine z7 11 (fun fr' h'=>Sep h' (geL h.length) ([])∧fr' 20 = .bool ((!(jd s_1.Term 0 100))||((decide (s_1.Voted≠(-1))) &&
   (!(jp e_0 s_1.Voted))))∧fr' 2 = .ref [lst qi e_0.Servers,lst qe e_0.Post,lst ql e_0.Led] 0∧fr' 3 = .ref [.int .i64 s_1.Term,
   .int .i64 s_1.Voted,.bool s_1.Stands,.bool s_1.Leads,lst cI s_1.Got,lst cI s_1.Log] 0) (fun Q13 hN14=>?_) ?_
 ·simp only [List.take_succ_cons,List.take_zero]
  simp only [qc (g:=9),B0,reduceIte,reduceEqDiff]
  refine qy (t:=(!(jd s_1.Term 0 100))) (fun hg15=>?_) (fun hg15=>?_)
  ·simp only [hg15,qc (g:=9),zq,qc (g:=13),ym,qs,qb,zj,qa,qn,B0,reduceIte,reduceEqDiff]
   exact hN14 _ _ ⟨hS12,by rw [orT hg15]; simp only [B0,reduceIte,reduceEqDiff],rfl,rfl⟩
  ·simp only [hg15,qc (g:=9),qp,qt,qb,Nat.reduceAdd,Nat.zero_add,Nat.add_zero,qu,qo,B0,reduceIte,reduceEqDiff]
   refine qh (v := .int .i64 s_1.Voted) rfl ?_
   simp only [hg15,qc (g:=9),qp,qx,qb,qd1,qd,B0,reduceIte,reduceEqDiff]
   refine z7 6 (fun fr' h'=>Sep h' (geL h.length) ([])∧fr' 19 = .bool ((decide (s_1.Voted≠(-1))) &&
     (!(jp e_0 s_1.Voted)))∧fr' 2 = .ref [lst qi e_0.Servers,lst qe e_0.Post,lst ql e_0.Led] 0∧fr' 3 = .ref [.int .i64 s_1.Term,
     .int .i64 s_1.Voted,.bool s_1.Stands,.bool s_1.Leads,lst cI s_1.Got,lst cI s_1.Log] 0∧fr' 9 = .bool (!(jd s_1.Term 0 100))) (fun Q16 hN17=>?_) ?_
   ·simp only [List.take_succ_cons,List.take_zero]
    simp only [qc (g:=13),B0,reduceIte,reduceEqDiff]
    refine qy (t:=(decide (s_1.Voted≠(-1)))) (fun hg18=>?_) (fun hg18=>?_)
    ·simp only [hg18,qc (g:=13),zg,qo,B0,reduceIte,reduceEqDiff]
     refine qh (v := .agg [lst qi e_0.Servers,lst qe e_0.Post,lst ql e_0.Led]) rfl ?_
     simp only [hg18,qc (g:=13),zg,qt,qb,Nat.reduceAdd,Nat.zero_add,Nat.add_zero,qu,qo,B0,reduceIte,reduceEqDiff]
     refine qh (v := .int .i64 s_1.Voted) rfl ?_
     simp only [hg18,qc (g:=13),zg,qv,B0,reduceIte,reduceEqDiff]
     refine je rfl (qm (jm (qm zm (qm zm (qm zm qz)))) (qm zb qz)) (qbc
       (fun b hb=>decide_eq_true hb) e_0 s_1.Voted _ rfl) ?_
     simp only [hg18,qc (g:=13),zg,jj,qb,j9,hg15,qc (g:=9),qp,qs,zj,qa,qn,B0,reduceIte,
       reduceEqDiff]
     exact hN17 _ _ ⟨hS12,by rw [xl hg18]; simp only [B0,reduceIte,reduceEqDiff],rfl,rfl,by simp only [hg15,B0,reduceIte,reduceEqDiff]⟩
    ·simp only [hg18,qc (g:=13),jl,hg15,qc (g:=9),qp,qs,qb,zk,qa,qn,B0,reduceIte,reduceEqDiff]
     exact hN17 _ _ ⟨hS12,by rw [xm hg18]; simp only [B0,reduceIte,reduceEqDiff],rfl,rfl,by simp only [hg15,B0,reduceIte,reduceEqDiff]⟩
   rintro fr19 h24 ⟨hS25,f20,f21,f22,f23⟩
   simp only [List.drop_succ_cons,List.drop_zero]
   simp only [f23,hg15,qs,qb,zk,f20,qa,qn,B0,reduceIte,reduceEqDiff]
   exact hN14 _ _ ⟨hS25,by rw [orF hg15]; simp only [B0,reduceIte,reduceEqDiff],f21,f22⟩
 rintro fr26 h30 ⟨hS31,f27,f28,f29⟩
 simp only [List.drop_succ_cons,List.drop_zero]
 simp only [f27,qd,B0,reduceIte,reduceEqDiff]
 refine z7 7 (fun fr' h'=>Sep h' (geL h.length) ([])∧fr' 28 = .bool (((!(jd s_1.Term 0 100))||((decide (s_1.Voted≠(-1))) &&
   (!(jp e_0 s_1.Voted))))||(s_1.Stands&&s_1.Leads))∧fr' 2 = .ref [lst qi e_0.Servers,lst qe e_0.Post,
   lst ql e_0.Led] 0∧fr' 3 = .ref [.int .i64 s_1.Term,.int .i64 s_1.Voted,.bool s_1.Stands,.bool s_1.Leads,lst cI s_1.Got,
   lst cI s_1.Log] 0) (fun Q32 hN33=>?_) ?_
 ·simp only [List.take_succ_cons,List.take_zero]
  simp only [qc (g:=21),B0,reduceIte,reduceEqDiff]
  refine qy (t:=((!(jd s_1.Term 0 100))||((decide (s_1.Voted≠(-1)))&&(!(jp e_0 s_1.Voted))))) (fun hg34=>?_) (fun hg34=>?_)
  ·simp only [hg34,qc (g:=21),zq,qc (g:=24),ym,qs,qb,zj,qa,qn,B0,reduceIte,reduceEqDiff]
   exact hN33 _ _ ⟨hS31,by rw [orT hg34]; simp only [B0,reduceIte,reduceEqDiff],f28,f29⟩
  ·simp only [hg34,qc (g:=21),qp,f29,qt,qb,Nat.reduceAdd,Nat.zero_add,Nat.add_zero,qu,qo,B0,reduceIte,reduceEqDiff]
   refine qh (v := .bool s_1.Stands) rfl ?_
   simp only [hg34,qc (g:=21),qp,qd,B0,reduceIte,reduceEqDiff]
   refine z7 3 (fun fr' h'=>Sep h' (geL h.length) ([])∧fr' 27 = .bool (s_1.Stands&&s_1.Leads)∧fr' 2 = .ref [lst qi e_0.Servers,lst qe e_0.Post,
     lst ql e_0.Led] 0∧fr' 3 = .ref [.int .i64 s_1.Term,.int .i64 s_1.Voted,.bool s_1.Stands,.bool s_1.Leads,lst cI s_1.Got,
     lst cI s_1.Log] 0∧fr' 21 = .bool ((!(jd s_1.Term 0 100))||((decide (s_1.Voted≠(-1)))&&(!(jp e_0 s_1.Voted))))) (fun Q35 hN36=>?_) ?_
   ·simp only [List.take_succ_cons,List.take_zero]
    simp only [qc (g:=24),B0,reduceIte,reduceEqDiff]
    refine qy (t:=s_1.Stands) (fun hg37=>?_) (fun hg37=>?_)
    ·simp only [hg37,qc (g:=24),zg,f29,qt,qb,Nat.reduceAdd,Nat.zero_add,Nat.add_zero,qu,qo,B0,reduceIte,reduceEqDiff]
     refine qh (v := .bool s_1.Leads) rfl ?_
     simp only [hg34,qc (g:=21),qp,hg37,qs,qb,zj,qa,qn,B0,reduceIte,reduceEqDiff]
     exact hN36 _ _ ⟨hS31,by rw [xl hg37]; simp only [B0,reduceIte,reduceEqDiff],f28,by simp only [f29,B0,reduceIte,reduceEqDiff,hg37],by simp only [hg34,B0,
       reduceIte,reduceEqDiff]⟩
    ·simp only [hg37,qc (g:=24),jl,hg34,qc (g:=21),qp,qs,qb,zk,qa,qn,B0,reduceIte,reduceEqDiff]
     exact hN36 _ _ ⟨hS31,by rw [xm hg37]; simp only [B0,reduceIte,reduceEqDiff],f28,by simp only [f29,B0,reduceIte,reduceEqDiff,hg37],by simp only [hg34,B0,
       reduceIte,reduceEqDiff]⟩
   rintro fr38 h43 ⟨hS44,f39,f40,f41,f42⟩
   simp only [List.drop_succ_cons,List.drop_zero]
   simp only [f42,hg34,qs,qb,zk,f39,qa,qn,B0,reduceIte,reduceEqDiff]
   exact hN33 _ _ ⟨hS44,by rw [orF hg34]; simp only [B0,reduceIte,reduceEqDiff],f40,f41⟩
 rintro fr45 h49 ⟨hS50,f46,f47,f48⟩
 simp only [List.drop_succ_cons,List.drop_zero]
 simp only [f46,qd,B0,reduceIte,reduceEqDiff]
 obtain ⟨v54,hx55,hF56⟩:=qj hF
 refine z7 5 (fun fr' h'=>Sep h' (geL h.length) ([])∧fr' 34 = .bool v54∧fr' 2 = .ref [lst qi e_0.Servers,lst qe e_0.Post,
   lst ql e_0.Led] 0∧fr' 3 = .ref [.int .i64 s_1.Term,.int .i64 s_1.Voted,.bool s_1.Stands,.bool s_1.Leads,lst cI s_1.Got,
   lst cI s_1.Log] 0) (fun Q51 hN52=>?_) ?_
 ·simp only [List.take_succ_cons,List.take_zero]
  simp only [qc (g:=29),B0,reduceIte,reduceEqDiff]
  refine qy (t:=(((!(jd s_1.Term 0 100))||((decide (s_1.Voted≠(-1)))&&(!(jp e_0 s_1.Voted))))||(s_1.Stands&&s_1.Leads))) (fun hg53=>?_)
    (fun hg53=>?_)
  ·rw [iteT hg53] at hx55
   simp only [hg53,qc (g:=29),zq,qs,qb,zj,qa,qn,B0,reduceIte,reduceEqDiff]
   have e57:=qk hx55
   exact hN52 _ _ ⟨hS50,by rw [←e57]; simp only [B0,reduceIte,reduceEqDiff],f47,f48⟩
  ·rw [iteF hg53] at hx55
   simp only [hg53,qc (g:=29),qp,f48,qt,qb,Nat.reduceAdd,Nat.zero_add,Nat.add_zero,qu,qo,B0,reduceIte,reduceEqDiff]
   refine qh (v:=lst cI s_1.Log) rfl ?_
   obtain ⟨v58,hx59,hF60⟩:=qj hx55
   simp only [hg53,qc (g:=29),qp,qv,B0,reduceIte,reduceEqDiff]
   refine je rfl (qm zm qz) (xn (fun b hb=>decide_eq_true hb) s_1.Log v58 hx59) ?_
   simp only [hg53,qc (g:=29),qp,jj,qb,j9,qs,zk,qa,qn,B0,reduceIte,reduceEqDiff]
   have e61:=qk hF60
   exact hN52 _ _ ⟨hS50,by rw [←e61]; simp only [B0,reduceIte,reduceEqDiff],f47,f48⟩
 rintro fr62 h66 ⟨hS67,f63,f64,f65⟩
 simp only [List.drop_succ_cons,List.drop_zero]
 simp only [qa,f63,ze,B0,reduceIte,reduceEqDiff]
 refine zf (t:=v54) (fun hc68=>?_) (fun hc68=>?_)
 ·rw [iteT hc68] at hF56
  simp only [qg,qf,qd,qa,za,B0,reduceIte,reduceEqDiff]
  have he:=qk hF56
  subst he
  simp only [zp,B0,reduceIte,reduceEqDiff]
  exact rfl
 rw [iteF hc68] at hF56
 simp only [zi,q3l,qg,qf,f65,qt,qb,Nat.reduceAdd,Nat.zero_add,Nat.add_zero,qu,qo,B0,reduceIte,reduceEqDiff]
 refine qh (v := .bool s_1.Stands) rfl ?_
 simp only [jj,qb,j9,qd,B0,reduceIte,reduceEqDiff]
 refine z7 4 (fun fr' h'=>Sep h' (geL h.length) ([])∧fr' 42 = .bool ((!s_1.Stands)&&(!s_1.Leads))∧fr' 2 = .ref [lst qi e_0.Servers,
   lst qe e_0.Post,lst ql e_0.Led] 0∧fr' 3 = .ref [.int .i64 s_1.Term,.int .i64 s_1.Voted,.bool s_1.Stands,.bool s_1.Leads,lst cI s_1.Got,
   lst cI s_1.Log] 0) (fun Q69 hN70=>?_) ?_
 ·simp only [List.take_succ_cons,List.take_zero]
  simp only [qc (g:=38),B0,reduceIte,reduceEqDiff]
  refine qy (t:=(!s_1.Stands)) (fun hg71=>?_) (fun hg71=>?_)
  ·simp only [hg71,qc (g:=38),zg,f65,qt,qb,Nat.reduceAdd,Nat.zero_add,Nat.add_zero,qu,qo,B0,reduceIte,reduceEqDiff]
   refine qh (v := .bool s_1.Leads) rfl ?_
   simp only [hg71,qc (g:=38),zg,jj,qb,j9,qs,zj,qa,qn,B0,reduceIte,reduceEqDiff]
   exact hN70 _ _ ⟨hS67,by rw [xl hg71]; simp only [B0,reduceIte,reduceEqDiff],f64,f65⟩
  ·simp only [hg71,qc (g:=38),jl,qs,qb,zk,qa,qn,B0,reduceIte,reduceEqDiff]
   exact hN70 _ _ ⟨hS67,by rw [xm hg71]; simp only [B0,reduceIte,reduceEqDiff],f64,f65⟩
 rintro fr72 h76 ⟨hS77,f73,f74,f75⟩
 simp only [List.drop_succ_cons,List.drop_zero]
 simp only [qa,q38,f73,ze,B0,reduceIte,reduceEqDiff]
 refine zf (t:=((!s_1.Stands)&&(!s_1.Leads))) (fun hc78=>?_) (fun hc78=>?_)
 ·rw [iteT hc78] at hF56
  simp only [q2w,qg,qf,f75,qt,qb,Nat.reduceAdd,Nat.zero_add,Nat.add_zero,qu,qo,B0,reduceIte,reduceEqDiff]
  refine qh (v:=lst cI s_1.Got) rfl ?_
  simp only [zr,qb,zx,qx,yh,qd,qa,za,B0,reduceIte,reduceEqDiff]
  have he:=qk hF56
  subst he
  simp only [zp,B0,reduceIte,reduceEqDiff]
  exact rfl
 rw [iteF hc78] at hF56
 simp only [zi,q7e,qg,qf,f75,qt,qb,Nat.reduceAdd,Nat.zero_add,Nat.add_zero,qu,qo,B0,reduceIte,reduceEqDiff]
 refine qh (v:=lst cI s_1.Got) rfl ?_
 simp only [f74,qt,qb,Nat.reduceAdd,Nat.zero_add,Nat.add_zero,qu,qo,B0,reduceIte,reduceEqDiff]
 refine qh (v:=lst qi e_0.Servers) rfl ?_
 obtain ⟨v79,hx80,hF81⟩:=qj hF56
 simp only [zr,qb,zx,qv,B0,reduceIte,reduceEqDiff]
 refine je rfl (qm zm (qm zb qz)) (qmk (fun b hb=>decide_eq_true hb) s_1.Got (List.length e_0.Servers:Int) v79 hx80) ?_
 simp only [qd,qa,za,B0,reduceIte,reduceEqDiff]
 have he:=qk hF81
 subst he
 simp only [zp,B0,reduceIte,reduceEqDiff]
 exact rfl
end Go.Proofs.Ytpddolihbnfahaa.X
