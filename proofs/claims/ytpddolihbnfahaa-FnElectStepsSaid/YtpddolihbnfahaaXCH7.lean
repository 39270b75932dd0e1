/- The functions' code comes to what the plain functions say (7). -/
import Derived.Test.YtpddolihbnfahaaXCH6
set_option linter.unusedVariables false
set_option linter.unusedSimpArgs false
set_option maxRecDepth 100000
namespace Go.Proofs.Ytpddolihbnfahaa.X
open Go
open Nat (reduceEqDiff)
theorem qjk {W:Nat→Bool}{h:Heap} (hW:∀ b,
  (geL h.length) b→W b=true) (k:Nat) (v_0:List Int) (v_1:List Int) (r:Bool) (hF:qa0 k v_0 v_1=some r) : Ret E W 4 [lst cU8 v_0,
  lst cU8 v_1] h (fun v h'=>cut h.length h' E.sz false 9 v=some (.bool r)):=by
 refine Ret.of (fn:=x4) rfl (Run.of ?_)
 unfold qa0 at hF
 have zf0:zh [lst cU8 v_0,lst cU8 v_1] 0=lst cU8 v_0:=rfl
 have zf1:zh [lst cU8 v_0,lst cU8 v_1] 1=lst cU8 v_1:=rfl
 generalize zh [lst cU8 v_0,lst cU8 v_1]=fr0 at zf0 zf1 ⊢
 have hS:Sep h (geL h.length) []:=Sep.nil h
 simp only [x4,qg,qf,qd,qa,q65,zf0,zr,qb,zx,zf1,qx,qam,xb,ze,B0,reduceIte,reduceEqDiff]
 refine zf (t:=(decide ((1048576:Int)<(IntKind.wrap .i64 ((List.length v_0:Int)+(List.length v_1:Int)))))) (fun hc1=>?_) (fun hc1=>?_)
 ·rw [iteT hc1] at hF
  simp only [qg,qf,qd,qa,za,B0,reduceIte,reduceEqDiff]
  have he:=qk hF
  subst he
  simp only [zp,B0,reduceIte,reduceEqDiff]
  exact rfl
 rw [iteF hc1] at hF
 obtain ⟨v2,hx3,hF4⟩:=qj hF
 simp only [zi,q3d,qg,qf,zf0,qd,qv,B0,reduceIte,reduceEqDiff]
 refine qb7 rfl hS (qm zm qz) (qhn (fun b hb=>decide_eq_true hb) k v_0 v2 hx3) ?_
 rintro _ h17 ⟨v5,c6,v9,c10,v13,c14,rfl,hv7,hv11,hv15,hS18⟩
 refine ⟨_,qcv (qq (qbw (qq (SlN.free1 hv7) (qq (SlF.free1 hv11) (qq (SlF.free1 hv15) zo)))) (qq (qbw (qq rfl (qq rfl zo))) zo)),hS18,
   (jq (SlN.pf hv7 Server.RO) (jq (SlF.pf hv11 (fun _=>rfl)) (jq (SlF.pf hv15 (fun _=>rfl)) uf))),fun h19 hS20=>?_⟩
 have hS21:Sep h19 (geL h.length) (c6++(c10++(c14++([])))):=by simpa only [List.append_assoc,List.nil_append] using hS20
 simp only [qd,yu,qb,yz,yy,jg,B0,reduceIte,reduceEqDiff]
 refine zw hS21 (fun b22 h23 hS24=>?_)
 simp only [jg,B0,reduceIte,reduceEqDiff]
 refine zw hS24 (fun b26 h27 hS28=>?_)
 simp only [zl,B0,reduceIte,reduceEqDiff]
 refine q9 (us:=[v5,v9,v13]) rfl (cs':=[v5,v9,
   v13]) (Sep.m1 hS28) hW rfl (qq (SlN.one hv7) (qq (SlF.one hv11) (qq (SlF.one hv15) zo))) (nle rfl) rfl (fun h30 hS31=>?_)
 simp only [zl,B0,reduceIte,reduceEqDiff]
 refine q9 (us:=[.int .i64 v2.2.Term,.int .i64 v2.2.Leader]) rfl (cs':=[.int .i64 v2.2.Term,
   .int .i64 v2.2.Leader]) (Sep.m1 hS31) hW rfl rfl (nle rfl) rfl (fun h32 hS33=>?_)
 simp only [qa,B0,reduceIte,reduceEqDiff]
 refine zy (Sep.m1 hS33) hW (by simp only [B0,reduceIte,reduceEqDiff]) (fun h34 hS35=>?_)
 refine zy hS35 hW (by simp only [B0,reduceIte,reduceEqDiff]) (fun h36 hS37=>?_)
 simp only [zv,q01,qg,qf,qo,B0,reduceIte,reduceEqDiff]
 refine qh (v := .agg [v5,v9,v13]) rfl ?_
 simp only [qo,B0,reduceIte,reduceEqDiff]
 refine qh (v := .agg [.int .i64 v2.2.Term,.int .i64 v2.2.Leader]) rfl ?_
 obtain ⟨v38,hx39,hF40⟩:=qj hF4
 simp only [qv,B0,reduceIte,reduceEqDiff]
 refine qb7 rfl hS37 (qm (jm (qm (SlN.snap hv7 _ hS37 rfl Server.RO) (qm (SlF.snap hv11 (Sep.m1 hS37) rfl (fun _=>rfl) (fun _=>rfl)) (qm (SlF.snap hv15
   (Sep.m2 hS37) rfl (fun _=>rfl) (fun _=>rfl)) qz)))) (qm (jm (qm zb (qm zb qz))) qz)) (qjh
   (fun b hb=>decide_eq_true hb) k v2.1 v2.2 v38 hx39) ?_
 rintro _ h53 ⟨v41,c42,v45,c46,v49,c50,rfl,hv43,hv47,hv51,hS54⟩
 refine ⟨_,qcv (qq (qbw (qq (SlN.free1 hv43) (qq (SlF.free1 hv47) (qq (SlF.free1 hv51) zo)))) (qq rfl zo)),hS54,
   (jq (SlN.pf hv43 Server.RO) (jq (SlF.pf hv47 (fun _=>rfl)) (jq (SlF.pf hv51 (fun _=>rfl)) uf))),fun h55 hS56=>?_⟩
 have hS57:Sep h55 (geL h.length) (c42++(c46++(c50++(c6++(c10++(c14++([]))))))):=by simpa only [List.append_assoc,List.nil_append] using hS56
 simp only [qd,yu,qb,yz,yy,jg,B0,reduceIte,reduceEqDiff]
 refine zw hS57 (fun b58 h59 hS60=>?_)
 simp only [zl,B0,reduceIte,reduceEqDiff]
 refine q9 (us:=[v41,v45,v49]) rfl (cs':=[v41,v45,
   v49]) hS60 hW rfl (qq (SlN.one hv43) (qq (SlF.one hv47) (qq (SlF.one hv51) zo))) (nle rfl) rfl (fun h62 hS63=>?_)
 simp only [qd,qa,B0,reduceIte,reduceEqDiff]
 refine zy hS63 hW (by simp only [B0,reduceIte,reduceEqDiff]) (fun h64 hS65=>?_)
 simp only [zv,q3y,qg,qf,qo,B0,reduceIte,reduceEqDiff]
 refine qh (v := .agg [v5,v9,v13]) rfl ?_
 simp only [qo,B0,reduceIte,reduceEqDiff]
 refine qh (v := .agg [.int .i64 v2.2.Term,.int .i64 v2.2.Leader]) rfl ?_
 obtain ⟨v66,hx67,hF68⟩:=qj hF40
 simp only [qv,B0,reduceIte,reduceEqDiff]
 refine qb7 rfl hS65 (qm (jm (qm (SlN.snap hv7 _ (Sep.m3 hS65) rfl Server.RO) (qm (SlF.snap hv11 (Sep.m4 hS65) rfl (fun _=>rfl) (fun _=>rfl)) (qm
   (SlF.snap hv15 (Sep.m5 hS65) rfl (fun _=>rfl) (fun _=>rfl)) qz)))) (qm (jm (qm zb (qm zb qz))) qz)) (qjd
   (fun b hb=>decide_eq_true hb) k v2.1 v2.2 v66 hx67) ?_
 rintro _ h81 ⟨v69,c70,v73,c74,v77,c78,rfl,hv71,hv75,hv79,hS82⟩
 refine ⟨_,qcv (qq (qbw (qq (SlN.free1 hv71) (qq (SlF.free1 hv75) (qq (SlF.free1 hv79) zo)))) (qq rfl zo)),hS82,
   (jq (SlN.pf hv71 Server.RO) (jq (SlF.pf hv75 (fun _=>rfl)) (jq (SlF.pf hv79 (fun _=>rfl)) uf))),fun h83 hS84=>?_⟩
 have hS85:Sep h83 (geL h.length) (c70++(c74++(c78++(c42++(c46++(c50++(c6++(c10++(c14++([])))))))))):=by simpa only [List.append_assoc,
   List.nil_append] using hS84
 simp only [qd,yu,qb,yz,yy,jg,B0,reduceIte,reduceEqDiff]
 refine zw hS85 (fun b86 h87 hS88=>?_)
 simp only [zl,B0,reduceIte,reduceEqDiff]
 refine q9 (us:=[v69,v73,v77]) rfl (cs':=[v69,v73,
   v77]) hS88 hW rfl (qq (SlN.one hv71) (qq (SlF.one hv75) (qq (SlF.one hv79) zo))) (nle rfl) rfl (fun h90 hS91=>?_)
 simp only [qd,qa,B0,reduceIte,reduceEqDiff]
 refine zy hS91 hW (by simp only [B0,reduceIte,reduceEqDiff]) (fun h92 hS93=>?_)
 simp only [zv,q13,qg,jv,jf,qr,qwh,qem,B0,reduceIte,reduceEqDiff]
 simp only [zc (g:=65),B0,reduceIte,reduceEqDiff]
 refine k7 (t:=(!(v38.2 == v66.2))) (fun hg94=>?_) (fun hg94=>?_)
 ·rw [iteT hg94] at hF68
  simp only [hg94,zc (g:=65),xd,kr,qr,zj,jf,zc (g:=71),zn,ze,qez,qg,qf,qd,
    qa,za,B0,reduceIte,reduceEqDiff]
  have he:=qk hF68
  subst he
  simp only [zp,B0,reduceIte,reduceEqDiff]
  exact rfl
 rw [iteF hg94] at hF68
 simp only [hg94,zc (g:=65),zu,ja,B0,reduceIte,reduceEqDiff]
 refine qw (v := .agg [v41,v45,v49]) rfl ?_
 simp only [hg94,zc (g:=65),zu,ja,B0,reduceIte,reduceEqDiff]
 refine qw (v := .agg [v69,v73,v77]) rfl ?_
 obtain ⟨v95,hx96,hF97⟩:=qj hF68
 simp only [hg94,zc (g:=65),zu,yf,B0,reduceIte,reduceEqDiff]
 refine qdc rfl (qm (jm (qm (SlN.snap hv43 _ (Sep.m3 hS93) rfl Server.RO) (qm (SlF.snap hv47 (Sep.m4 hS93) rfl (fun _=>rfl) (fun _=>rfl)) (qm
   (SlF.snap hv51 (Sep.m5 hS93) rfl (fun _=>rfl) (fun _=>rfl)) qz)))) (qm (jm (qm (SlN.snap hv71 _ hS93 rfl Server.RO) (qm (SlF.snap hv75
   (Sep.m1 hS93) rfl (fun _=>rfl) (fun _=>rfl)) (qm (SlF.snap hv79 (Sep.m2 hS93) rfl (fun _=>rfl) (fun _=>rfl)) qz)))) qz)) (qfg
   (fun b hb=>decide_eq_true hb) v38.1 v66.1 v95 hx96) ?_
 simp only [hg94,zc (g:=65),zu,qi6,qr,j9,kr,zk,jf,B0,reduceIte,reduceEqDiff]
 simp only [zc (g:=71),B0,reduceIte,reduceEqDiff]
 refine k7 (t:=(!v95)) (fun hg98=>?_) (fun hg98=>?_)
 ·rw [iteT hg98] at hF97
  simp only [hg98,zc (g:=71),xd,kr,qr,zj,zn,ze,qez,qg,qf,qd,qa,za,B0,
    reduceIte,reduceEqDiff]
  have he:=qk hF97
  subst he
  simp only [zp,B0,reduceIte,reduceEqDiff]
  exact rfl
 rw [iteF hg98] at hF97
 simp only [hg98,zc (g:=71),zu,ja,B0,reduceIte,reduceEqDiff]
 refine qw (v := .agg [v5,v9,v13]) rfl ?_
 obtain ⟨v99,hx100,hF101⟩:=qj hF97
 simp only [hg98,zc (g:=71),zu,ua,B0,reduceIte,reduceEqDiff]
 refine qjm rfl (qm (jm (qm (SlN.snap hv7 _ (Sep.m6 hS93) rfl Server.RO) (qm (SlF.snap hv11 (Sep.m7 hS93) rfl (fun _=>rfl) (fun _=>rfl)) (qm
   (SlF.snap hv15 (Sep.m8 hS93) rfl (fun _=>rfl) (fun _=>rfl)) qz)))) qz) (qfy (fun b hb=>decide_eq_true hb) v2.1 v99 hx100) ?_
 simp only [hg98,zc (g:=71),zu,ue,qcp,B0,reduceIte,reduceEqDiff]
 refine qw (v := .agg [v5,v9,v13]) rfl ?_
 obtain ⟨v102,hx103,hF104⟩:=qj hF101
 simp only [hg98,zc (g:=71),zu,yf,B0,reduceIte,reduceEqDiff]
 refine qdc rfl (qm (jm (qm (SlN.snap hv7 _ (Sep.m6 hS93) rfl Server.RO) (qm (SlF.snap hv11 (Sep.m7 hS93) rfl (fun _=>rfl) (fun _=>rfl)) (qm
   (SlF.snap hv15 (Sep.m8 hS93) rfl (fun _=>rfl) (fun _=>rfl)) qz)))) qz) (ut (fun b hb=>decide_eq_true hb) v2.1 v102 hx103) ?_
 simp only [hg98,zc (g:=71),zu,qwh,qr,qem,kr,zk,zn,ze,B0,reduceIte,reduceEqDiff]
 refine zf (t:=(!(v99 == v102))) (fun hc105=>?_) (fun hc105=>?_)
 ·rw [iteT hc105] at hF104
  simp only [qg,qf,qd,qa,za,B0,reduceIte,reduceEqDiff]
  have he:=qk hF104
  subst he
  simp only [zp,B0,reduceIte,reduceEqDiff]
  exact rfl
 rw [iteF hc105] at hF104
 simp only [zi,q5n,qg,qf,qd,qa,q9n,ze,B0,reduceIte,reduceEqDiff]
 obtain ⟨oc106,hX107,hk108⟩:=kn hF104
 refine uq (t:=v38.2) (fun fr' h'=>∃ s,oc106 = .nxt s∧fr' 1=lst cU8 v_1∧Sep h' (geL h.length) ([])) (fun Q109 hN110 hR111 hE112=>⟨fun hc113=>?_,
   fun hc113=>?_⟩) ?_
 ·rw [iteT hc113] at hX107
  simp only [q9r,qg,qf,qt,qb,Nat.reduceAdd,Nat.zero_add,Nat.add_zero,qu,qo,B0,reduceIte,reduceEqDiff]
  refine qh (v:=v5) rfl ?_
  simp only [zr,qb,SlN.len hv7,qd,qa,B0,reduceIte,reduceEqDiff]
  obtain ⟨oc128,hX130,hk131⟩:=kn hX107
  simp only [q9j]
  refine qf1 (σ:=(List Server) × (List Server)) (fun i126 s288=>uh i126 s288.1 s288.2) (fun s fr' h'=>∃ c121 c124,
    fr' 1=lst cU8 v_1∧fr' 5 = .ref [v5,v9,v13] 0∧fr' 7 = .ref [v41,v45,
    v49] 0∧fr' 80=v5∧SlN Server.R 6 46 v5 s.1 c121∧SlN Server.R 6 46 v41 s.2 c124∧Sep h' (geL h.length) (c121++(c10++(c14++(c124++(c46++(c50 ++
    ([])))))))) hX130 ⟨c6,c42,zf1,rfl,rfl,rfl,hv7,hv43,(Sep.m5 (Sep.m5 (Sep.m5 (Sep.m2 (Sep.m2 (Sep.m2 (Sep.dc ((Sep.dc ((Sep.dc (hS93))))))))))))⟩ (by simp only [B0,
    reduceIte,reduceEqDiff]) (by simp only [B0,reduceIte,
    reduceEqDiff]) (fun _ _ _ h=>h) rfl rfl (fun _ _ _ _ h=>h) (fun _ _ _ _ h=>h) (fun _ _ _ _ h=>h) (by decide) ?_ ?_
  ·rintro i126 ⟨s120,s123⟩ fr140 h141 hx147 ⟨c121,c124,f143,f144,f145,f146,hv122,hv125,hS142⟩ f148 f149 oc129 hF132 hr133 Q134 hN135 hB139 hK136 hR137 hE138
   dsimp only at *
   unfold uh at hF132
   obtain ⟨x150,hx151,hF152⟩:=qj hF132
   simp only [q9g,qg,qf,f148,qd,f146,jr,B0,reduceIte,reduceEqDiff]
   obtain ⟨b153,hb154⟩:=SlN.isrow hv122 (wg hx151)
   refine qh (SlN.ia hv122 hb154 hx151) ?_
   obtain ⟨c155,cs156,os157,hv158,hR159,hS160⟩:=SlG.opn (SlN.toG hv122 hb154 Server.RO.len) hx151 ju Server.RO.len hS142
   obtain ⟨v162,c163,v166,c167,hv164,hv168,rfl,rfl⟩:=hR159
   have hS161:=Sep.no2 hS160
   simp only [qo,B0,reduceIte,reduceEqDiff]
   refine qh (v := .agg [.int .i64 x150.Term,.int .i64 x150.Voted,.bool x150.Stands,.bool x150.Leads,v162,
     v166]) ((SlG.lds (o:=0) hv158 rfl hx151 hS161 (nle rfl)).trans rfl) ?_
   simp only [jg,B0,reduceIte,reduceEqDiff]
   refine zw hS161 (fun b170 h171 hS172=>?_)
   simp only [qd,zl,B0,reduceIte,reduceEqDiff]
   refine q9 (us:=[.int .i64 x150.Term,.int .i64 x150.Voted,.bool x150.Stands,.bool x150.Leads,v162,v166]) rfl (cs':=[.int .i64 x150.Term,.int .i64 x150.Voted,
     .bool x150.Stands,.bool x150.Leads,v162,
     v166]) hS172 hW rfl (qq rfl (qq rfl (qq rfl (qq rfl (qq (SlF.one hv164) (qq (SlF.one hv168) zo)))))) (nle rfl) rfl (fun h174 hS175=>?_)
   simp only [qa,B0,reduceIte,reduceEqDiff]
   refine zy hS175 hW (by simp only [B0,reduceIte,reduceEqDiff]) (fun h176 hS177=>?_)
   simp only [zv,q9v,qg,qf,f145,qt,qb,Nat.reduceAdd,Nat.zero_add,Nat.add_zero,qu,qo,B0,reduceIte,reduceEqDiff]
   refine qh (v:=v41) rfl ?_
   obtain ⟨x178,hx179,hF180⟩:=qj hF152
   simp only [qd,jr,B0,reduceIte,reduceEqDiff]
   obtain ⟨b181,hb182⟩:=SlN.isrow hv125 (wg hx179)
   refine qh (SlN.ia hv125 hb182 hx179) ?_
   obtain ⟨c183,cs184,os185,hv186,hR187,hS188⟩:=SlG.opn (SlN.toG hv125 hb182 Server.RO.len) hx179 ju Server.RO.len (Sep.m5 hS177)
   obtain ⟨v190,c191,v194,c195,hv192,hv196,rfl,rfl⟩:=hR187
   have hS189:=Sep.no2 hS188
   simp only [qo,B0,reduceIte,reduceEqDiff]
   refine qh (v := .agg [.int .i64 x178.Term,.int .i64 x178.Voted,.bool x178.Stands,.bool x178.Leads,v190,
     v194]) ((SlG.lds (o:=0) hv186 rfl hx179 hS189 (nle rfl)).trans rfl) ?_
   simp only [jg,B0,reduceIte,reduceEqDiff]
   refine zw hS189 (fun b198 h199 hS200=>?_)
   simp only [zl,B0,reduceIte,reduceEqDiff]
   refine q9 (us:=[.int .i64 x178.Term,.int .i64 x178.Voted,.bool x178.Stands,.bool x178.Leads,v190,v194]) rfl (cs':=[.int .i64 x178.Term,.int .i64 x178.Voted,
     .bool x178.Stands,.bool x178.Leads,v190,
     v194]) hS200 hW rfl (qq rfl (qq rfl (qq rfl (qq rfl (qq (SlF.one hv192) (qq (SlF.one hv196) zo)))))) (nle rfl) rfl (fun h202 hS203=>?_)
   simp only [qa,B0,reduceIte,reduceEqDiff]
   refine zy hS203 hW (by simp only [B0,reduceIte,reduceEqDiff]) (fun h204 hS205=>?_)
   simp only [zv,q9a,qg,qf,qt,qb,Nat.reduceAdd,Nat.zero_add,Nat.add_zero,qu,qo,B0,reduceIte,reduceEqDiff]
   refine qh (v := .int .i64 x178.Term) rfl ?_
   simp only [qt,qb,Nat.reduceAdd,Nat.zero_add,Nat.add_zero,qu,qo,B0,reduceIte,reduceEqDiff]
   refine qh (v := .int .i64 x150.Term) rfl ?_
   simp only [qx,qb,qdj,qd,B0,reduceIte,reduceEqDiff]
   refine z7 18 (fun fr' h'=>Sep h' (geL h.length) (c155++(c10++(c14++(c183++(c46++(c50++(c163++(c167++(c191++(c195++([])))))))))))∧fr' 115 = .bool
     ((decide (x178.Term<x150.Term))||(((decide (x178.Term=x150.Term))&&(decide (x150.Voted≠(-1))))&&(decide
     (x178.Voted≠x150.Voted))))∧fr' 1=lst cU8 v_1∧fr' 5 = .ref [v5,v9,v13] 0∧fr' 7 = .ref [v41,v45,v49] 0∧fr' 12 = .ref [.int .i64 x150.Term,
     .int .i64 x150.Voted,.bool x150.Stands,.bool x150.Leads,v162,v166] 0∧fr' 13 = .ref [.int .i64 x178.Term,.int .i64 x178.Voted,.bool x178.Stands,.bool x178.Leads,
     v190,v194] 0∧fr' 80=v5∧fr' 81 = .int .i64 (List.length v2.1.Servers:Int)∧fr' 82 = .int .i64 (i126:Int)) (fun Q206 hN207=>?_) ?_
   ·simp only [List.take_succ_cons,List.take_zero]
    simp only [qc (g:=97),B0,reduceIte,reduceEqDiff]
    refine qy (t:=(decide (x178.Term<x150.Term))) (fun hg208=>?_) (fun hg208=>?_)
    ·simp only [hg208,qc (g:=97),zq,qc (g:=103),ym,qc (g:=108),qs,qb,zj,qa,qn,B0,
      reduceIte,reduceEqDiff]
     exact hN207 _ _ ⟨(Sep.m9 (Sep.m9 (Sep.m9 (Sep.m6 (Sep.m9 (Sep.m9 (Sep.m5 (Sep.m5 (Sep.m2 (Sep.m2 hS205)))))))))),by rw [orT hg208]; simp only [B0,reduceIte,
       reduceEqDiff],f143,f144,f145,rfl,rfl,f146,f149,f148⟩
    ·simp only [hg208,qc (g:=97),qp,qt,qb,Nat.reduceAdd,Nat.zero_add,Nat.add_zero,qu,qo,B0,reduceIte,reduceEqDiff]
     refine qh (v := .int .i64 x178.Term) rfl ?_
     simp only [hg208,qc (g:=97),qp,qt,qb,Nat.reduceAdd,Nat.zero_add,Nat.add_zero,qu,qo,B0,reduceIte,reduceEqDiff]
     refine qh (v := .int .i64 x150.Term) rfl ?_
     simp only [hg208,qc (g:=97),qp,qx,qb,yh,qd,B0,reduceIte,reduceEqDiff]
     refine z7 4 (fun fr' h'=>Sep h' (geL h.length) (c155++(c10++(c14++(c183++(c46++(c50++(c163++(c167++(c191++(c195 ++
       ([])))))))))))∧fr' 107 = .bool ((decide (x178.Term=x150.Term))&&(decide (x150.Voted≠(-1))))∧fr' 1=lst cU8 v_1∧fr' 5 = .ref [v5,v9,
       v13] 0∧fr' 7 = .ref [v41,v45,v49] 0∧fr' 12 = .ref [.int .i64 x150.Term,.int .i64 x150.Voted,.bool x150.Stands,.bool x150.Leads,v162,
       v166] 0∧fr' 13 = .ref [.int .i64 x178.Term,.int .i64 x178.Voted,.bool x178.Stands,.bool x178.Leads,v190,
       v194] 0∧fr' 80=v5∧fr' 81 = .int .i64 (List.length v2.1.Servers:Int)∧fr' 82 = .int .i64 (i126:Int)∧fr' 97 = .bool (decide (x178.Term<x150.Term)))
       (fun Q209 hN210=>?_) ?_
     ·simp only [List.take_succ_cons,List.take_zero]
      simp only [qc (g:=103),B0,reduceIte,reduceEqDiff]
      refine qy (t:=(decide (x178.Term=x150.Term))) (fun hg211=>?_) (fun hg211=>?_)
      ·simp only [hg211,qc (g:=103),zg,qt,qb,Nat.reduceAdd,Nat.zero_add,Nat.add_zero,qu,qo,B0,reduceIte,reduceEqDiff]
       refine qh (v := .int .i64 x150.Voted) rfl ?_
       simp only [hg211,qc (g:=103),zg,qx,qb,qd1,hg208,qc (g:=97),qp,qs,zj,qa,qn,B0,
         reduceIte,reduceEqDiff]
       exact hN210 _ _ ⟨(Sep.m9 (Sep.m9 (Sep.m9 (Sep.m6 (Sep.m9 (Sep.m9 (Sep.m5 (Sep.m5 (Sep.m2 (Sep.m2 hS205)))))))))),by rw [xl hg211]; simp only [B0,reduceIte,
         reduceEqDiff],f143,f144,f145,rfl,rfl,f146,f149,f148,by simp only [hg208,B0,reduceIte,reduceEqDiff]⟩
      ·simp only [hg211,qc (g:=103),jl,hg208,qc (g:=97),qp,qs,qb,zk,qa,qn,B0,reduceIte,
        reduceEqDiff]
       exact hN210 _ _ ⟨(Sep.m9 (Sep.m9 (Sep.m9 (Sep.m6 (Sep.m9 (Sep.m9 (Sep.m5 (Sep.m5 (Sep.m2 (Sep.m2 hS205)))))))))),by rw [xm hg211]; simp only [B0,reduceIte,
         reduceEqDiff],f143,f144,f145,rfl,rfl,f146,f149,f148,by simp only [hg208,B0,reduceIte,reduceEqDiff]⟩
     rintro fr212 h223 ⟨hS224,f213,f214,f215,f216,f217,f218,f219,f220,f221,f222⟩
     simp only [List.drop_succ_cons,List.drop_zero]
     simp only [f222,hg208,qc (g:=97),qp,f213,qd,B0,reduceIte,reduceEqDiff]
     refine z7 6 (fun fr' h'=>Sep h' (geL h.length) (c155++(c10++(c14++(c183++(c46++(c50++(c163++(c167++(c191++(c195 ++
       ([])))))))))))∧fr' 114 = .bool (((decide (x178.Term=x150.Term))&&(decide (x150.Voted≠(-1))))&&(decide
       (x178.Voted≠x150.Voted)))∧fr' 1=lst cU8 v_1∧fr' 5 = .ref [v5,v9,v13] 0∧fr' 7 = .ref [v41,v45,v49] 0∧fr' 12 = .ref [.int .i64 x150.Term,
       .int .i64 x150.Voted,.bool x150.Stands,.bool x150.Leads,v162,v166] 0∧fr' 13 = .ref [.int .i64 x178.Term,.int .i64 x178.Voted,.bool x178.Stands,
       .bool x178.Leads,v190,v194] 0∧fr' 80=v5∧fr' 81 = .int .i64 (List.length v2.1.Servers:Int)∧fr' 82 = .int .i64 (i126:Int)∧fr' 97 = .bool (decide
       (x178.Term<x150.Term))) (fun Q225 hN226=>?_) ?_
     ·simp only [List.take_succ_cons,List.take_zero]
      simp only [qc (g:=108),B0,reduceIte,reduceEqDiff]
      refine qy (t:=((decide (x178.Term=x150.Term))&&(decide (x150.Voted≠(-1))))) (fun hg227=>?_) (fun hg227=>?_)
      ·simp only [hg227,qc (g:=108),zg,f218,qt,qb,Nat.reduceAdd,Nat.zero_add,Nat.add_zero,qu,qo,B0,reduceIte,reduceEqDiff]
       refine qh (v := .int .i64 x178.Voted) rfl ?_
       simp only [hg227,qc (g:=108),zg,f217,qt,qb,Nat.reduceAdd,Nat.zero_add,Nat.add_zero,qu,qo,B0,reduceIte,reduceEqDiff]
       refine qh (v := .int .i64 x150.Voted) rfl ?_
       simp only [hg227,qc (g:=108),zg,qx,qb,qd1,f222,hg208,qc (g:=97),qp,qs,zj,qa,qn,
         B0,reduceIte,reduceEqDiff]
       exact hN226 _ _ ⟨(Sep.m9 (Sep.m9 (Sep.m9 (Sep.m9 (Sep.m9 (Sep.m9 (Sep.m9 (Sep.m9 (Sep.m9 (Sep.m9 hS224)))))))))),by rw [xl hg227]; simp only [B0,reduceIte,
         reduceEqDiff],f214,f215,f216,f217,f218,f219,f220,f221,by simp only [f222,hg208,B0,reduceIte,reduceEqDiff]⟩
      ·simp only [hg227,qc (g:=108),jl,f222,hg208,qc (g:=97),qp,qs,qb,zk,qa,qn,B0,reduceIte,
        reduceEqDiff]
       exact hN226 _ _ ⟨(Sep.m9 (Sep.m9 (Sep.m9 (Sep.m9 (Sep.m9 (Sep.m9 (Sep.m9 (Sep.m9 (Sep.m9 (Sep.m9 hS224)))))))))),by rw [xm hg227]; simp only [B0,reduceIte,
         reduceEqDiff],f214,f215,f216,f217,f218,f219,f220,f221,by simp only [f222,hg208,B0,reduceIte,reduceEqDiff]⟩
     rintro fr228 h239 ⟨hS240,f229,f230,f231,f232,f233,f234,f235,f236,f237,f238⟩
     simp only [List.drop_succ_cons,List.drop_zero]
     simp only [f238,hg208,qs,qb,zk,f229,qa,qn,B0,reduceIte,reduceEqDiff]
     exact hN207 _ _ ⟨(Sep.m9 (Sep.m9 (Sep.m9 (Sep.m9 (Sep.m9 (Sep.m9 (Sep.m9 (Sep.m9 (Sep.m9 (Sep.m9 hS240)))))))))),by rw [orF hg208]; simp only [B0,reduceIte,
       reduceEqDiff],f230,f231,f232,f233,f234,f235,f236,f237⟩
   rintro fr241 h251 ⟨hS252,f242,f243,f244,f245,f246,f247,f248,f249,f250⟩
   simp only [List.drop_succ_cons,List.drop_zero]
   simp only [f242,qd,B0,reduceIte,reduceEqDiff]
   obtain ⟨v256,hx257,hF258⟩:=qj hF180
   refine z7 7 (fun fr' h'=>Sep h' (geL h.length) (c155++(c10++(c14++(c183++(c46++(c50++(c163++(c167++(c191++(c195 ++
     ([])))))))))))∧fr' 123 = .bool v256∧fr' 1=lst cU8 v_1∧fr' 5 = .ref [v5,v9,v13] 0∧fr' 7 = .ref [v41,v45,
     v49] 0∧fr' 80=v5∧fr' 81 = .int .i64 (List.length v2.1.Servers:Int)∧fr' 82 = .int .i64 (i126:Int)) (fun Q253 hN254=>?_) ?_
   ·simp only [List.take_succ_cons,List.take_zero]
    simp only [qc (g:=116),B0,reduceIte,reduceEqDiff]
    refine qy (t:=((decide (x178.Term<x150.Term))||(((decide (x178.Term=x150.Term))&&(decide (x150.Voted≠(-1))))&&(decide (x178.Voted≠x150.Voted)))))
      (fun hg255=>?_) (fun hg255=>?_)
    ·rw [iteT hg255] at hx257
     simp only [hg255,qc (g:=116),zq,qs,qb,zj,qa,qn,B0,reduceIte,reduceEqDiff]
     have e259:=qk hx257
     exact hN254 _ _ ⟨(Sep.m9 (Sep.m9 (Sep.m9 (Sep.m9 (Sep.m9 (Sep.m9 (Sep.m9 (Sep.m9 (Sep.m9 (Sep.m9 hS252)))))))))),by rw [←e259]; simp only [B0,reduceIte,
       reduceEqDiff],f243,f244,f245,f248,f249,f250⟩
    ·rw [iteF hg255] at hx257
     simp only [hg255,qc (g:=116),qp,f247,qt,qb,Nat.reduceAdd,Nat.zero_add,Nat.add_zero,qu,qo,B0,reduceIte,reduceEqDiff]
     refine qh (v:=v194) rfl ?_
     simp only [hg255,qc (g:=116),qp,f246,qt,qb,Nat.reduceAdd,Nat.zero_add,Nat.add_zero,qu,qo,B0,reduceIte,reduceEqDiff]
     refine qh (v:=v166) rfl ?_
     obtain ⟨v260,hx261,hF262⟩:=qj hx257
     simp only [hg255,qc (g:=116),qp,qv,B0,reduceIte,reduceEqDiff]
     refine je rfl (qm (SlF.snap hv196 (Sep.m9 hS252) rfl (fun _=>rfl) (fun _=>rfl)) (qm (SlF.snap hv168 (Sep.m7 hS252) rfl (fun _=>rfl)
       (fun _=>rfl)) qz)) (qfp (fun b hb=>decide_eq_true hb) x178.Log x150.Log v260 hx261) ?_
     simp only [hg255,qc (g:=116),qp,jj,qb,j9,qs,zk,qa,qn,B0,reduceIte,reduceEqDiff]
     have e263:=qk hF262
     exact hN254 _ _ ⟨(Sep.m9 (Sep.m9 (Sep.m9 (Sep.m9 (Sep.m9 (Sep.m9 (Sep.m9 (Sep.m9 (Sep.m9 (Sep.m9 hS252)))))))))),by rw [←e263]; simp only [B0,reduceIte,
       reduceEqDiff],f243,f244,f245,f248,f249,f250⟩
   rintro fr264 h272 ⟨hS273,f265,f266,f267,f268,f269,f270,f271⟩
   simp only [List.drop_succ_cons,List.drop_zero]
   simp only [qa,f265,ze,B0,reduceIte,reduceEqDiff]
   refine zf (t:=v256) (fun hc274=>?_) (fun hc274=>?_)
   ·rw [iteT hc274] at hF258
    simp only [qg,qf,qd,qa,za,B0,reduceIte,reduceEqDiff]
    have e275:=qk hF258
    subst e275
    have ho276:=hr133 _ rfl
    have hk277:=hk131
    rw [ho276] at hk277
    dsimp only [jnO] at hk277
    apply hR137
    have e278:=qk hk277
    subst e278
    have hk108':=hk108
    dsimp only [jnO] at hk108'
    apply hR111
    have he:=qk hk108'
    subst he
    simp only [zp,B0,reduceIte,reduceEqDiff]
    exact rfl
   rw [iteF hc274] at hF258
   simp only [zi,qn,B0,reduceIte,reduceEqDiff]
   obtain ⟨c279,hv280,hS281⟩:=SlG.cls0 (c:=c155) (os:=c163++(c167)) hv158 rfl hx151 ju (Server.RI (x:=x150) hv164 hv168) (Sep.ni2 (c1:=c163) (c2:=c167)
     (Sep.m2 (Sep.m7 (Sep.m7 hS273))))
   have hv282:=SlG.toN hv280
   obtain ⟨c283,hv284,hS285⟩:=SlG.cls0 (c:=c183) (os:=c191++(c195)) hv186 rfl hx179 ju (Server.RI (x:=x178) hv192 hv196) (Sep.ni2 (c1:=c191) (c2:=c195)
     (Sep.m5 (Sep.m7 (Sep.m7 hS281))))
   have hv286:=SlG.toN hv284
   have e287:=qk hF258
   exact hN135 _ _ _ e287.symm ⟨c279,c283,f266,f267,f268,f269,hv282,hv286,(Sep.m5 (Sep.m5 (Sep.m5 (Sep.m2 (Sep.m5 (Sep.m5 hS285))))))⟩ (f271) (f270)
  rintro ⟨s289,s292⟩ fr295 h296 rfl ⟨c290,c293,f298,f299,f300,f301,hv291,hv294,hS297⟩
  dsimp only [jnO] at hk131
  dsimp only at *
  unfold qc0 at hk131
  simp only [q89,qg,qf,f300,qo,B0,reduceIte,reduceEqDiff]
  refine qh (v := .agg [v41,v45,v49]) rfl ?_
  obtain ⟨v302,hx303,hF304⟩:=qj hk131
  simp only [qv,B0,reduceIte,reduceEqDiff]
  refine je rfl (qm (jm (qm (SlN.snap hv294 _ (Sep.m3 hS297) rfl Server.RO) (qm (SlF.snap hv47 (Sep.m4 hS297) rfl (fun _=>rfl) (fun _=>rfl)) (qm
    (SlF.snap hv51 (Sep.m5 hS297) rfl (fun _=>rfl) (fun _=>rfl)) qz)))) qz) (qfy (fun b hb=>decide_eq_true hb)
    (Election.mk s292 v38.1.Post v38.1.Led) v302 hx303) ?_
  simp only [jj,qb,j9,qd,B0,reduceIte,reduceEqDiff]
  refine z7 8 (fun fr' h'=>Sep h' (geL h.length) ([])∧fr' 136 = .bool ((!v302)||(decide ((List.length v38.1.Led:Int) <
    (List.length v2.1.Led:Int))))∧fr' 1=lst cU8 v_1) (fun Q305 hN306=>?_) ?_
  ·simp only [List.take_succ_cons,List.take_zero]
   simp only [qc (g:=128),B0,reduceIte,reduceEqDiff]
   refine qy (t:=(!v302)) (fun hg307=>?_) (fun hg307=>?_)
   ·simp only [hg307,qc (g:=128),zq,qs,qb,zj,qa,qn,B0,reduceIte,reduceEqDiff]
    exact hN306 _ _ ⟨(Sep.dc ((Sep.dc ((Sep.dc ((Sep.dc ((Sep.dc ((Sep.dc (hS297)))))))))))),by rw [orT hg307]; simp only [B0,reduceIte,reduceEqDiff],f298⟩
   ·simp only [hg307,qc (g:=128),qp,f300,qt,qb,Nat.reduceAdd,Nat.zero_add,Nat.add_zero,qu,qo,B0,reduceIte,reduceEqDiff]
    refine qh (v:=v49) rfl ?_
    simp only [hg307,qc (g:=128),qp,zr,qb,SlF.plen hv51,f299,qt,Nat.reduceAdd,Nat.zero_add,Nat.add_zero,qu,qo,B0,
      reduceIte,reduceEqDiff]
    refine qh (v:=v13) rfl ?_
    simp only [hg307,qc (g:=128),qp,zr,qb,SlF.plen hv15,qx,qdj,qs,zk,qa,qn,B0,reduceIte,reduceEqDiff]
    exact hN306 _ _ ⟨(Sep.dc ((Sep.dc ((Sep.dc ((Sep.dc ((Sep.dc ((Sep.dc (hS297)))))))))))),by rw [orF hg307]; simp only [B0,reduceIte,reduceEqDiff],f298⟩
  rintro fr308 h311 ⟨hS312,f309,f310⟩
  simp only [List.drop_succ_cons,List.drop_zero]
  simp only [qa,f309,ze,B0,reduceIte,reduceEqDiff]
  refine zf (t:=((!v302)||(decide ((List.length v38.1.Led:Int)<(List.length v2.1.Led:Int))))) (fun hc313=>?_) (fun hc313=>?_)
  ·rw [iteT hc313] at hF304
   simp only [qg,qf,qd,qa,za,B0,reduceIte,reduceEqDiff]
   have e314:=qk hF304
   subst e314
   have hk108':=hk108
   dsimp only [jnO] at hk108'
   apply hR111
   have he:=qk hk108'
   subst he
   simp only [zp,B0,reduceIte,reduceEqDiff]
   exact rfl
  rw [iteF hc313] at hF304
  simp only [zi,qn,B0,reduceIte,reduceEqDiff]
  have e315:=qk hF304
  exact hN110 _ _ ⟨_,e315.symm,f310,hS312⟩
 ·rw [iteF hc113] at hX107
  simp only [zi,qn,B0,reduceIte,reduceEqDiff]
  have e317:=qk hX107
  exact hN110 _ _ ⟨_,e317.symm,zf1,(Sep.dc ((Sep.dc ((Sep.dc ((Sep.dc ((Sep.dc ((Sep.dc ((Sep.dc ((Sep.dc ((Sep.dc (hS93))))))))))))))))))⟩
 rintro fr318 h319 ⟨_,rfl,f321,hS320⟩
 dsimp only [jnO] at hk108
 unfold qa5 at hk108
 obtain ⟨v322,hx323,hF324⟩:=qj hk108
 simp only [q6j,qg,qf,f321,qd,qv,B0,reduceIte,reduceEqDiff]
 refine qb7 rfl hS320 (qm zm qz) (qjg (fun b hb=>decide_eq_true hb) k v_1 v322 hx323) ?_
 rintro _ h337 ⟨v325,c326,v329,c330,v333,c334,rfl,hv327,hv331,hv335,hS338⟩
 refine ⟨_,qcv (qq (qbw (qq (SlN.free1 hv327) (qq (SlF.free1 hv331) (qq (SlF.free1 hv335) zo)))) (qq rfl zo)),hS338,
   (jq (SlN.pf hv327 Server.RO) (jq (SlF.pf hv331 (fun _=>rfl)) (jq (SlF.pf hv335 (fun _=>rfl)) uf))),fun h339 hS340=>?_⟩
 have hS341:Sep h339 (geL h.length) (c326++(c330++(c334++([])))):=by simpa only [List.append_assoc,List.nil_append] using hS340
 simp only [qd,yu,qb,yz,yy,jg,B0,reduceIte,reduceEqDiff]
 refine zw hS341 (fun b342 h343 hS344=>?_)
 simp only [zl,B0,reduceIte,reduceEqDiff]
 refine q9 (us:=[v325,v329,v333]) rfl (cs':=[v325,v329,
   v333]) hS344 hW rfl (qq (SlN.one hv327) (qq (SlF.one hv331) (qq (SlF.one hv335) zo))) (nle rfl) rfl (fun h346 hS347=>?_)
 simp only [qd,qa,B0,reduceIte,reduceEqDiff]
 refine zy hS347 hW (by simp only [B0,reduceIte,reduceEqDiff]) (fun h348 hS349=>?_)
 simp only [zv,q5x,qg,qf,qo,B0,reduceIte,reduceEqDiff]
 refine qh (v := .agg [v325,v329,v333]) rfl ?_
 obtain ⟨v350,hx351,hF352⟩:=qj hF324
 simp only [qd,qv,B0,reduceIte,reduceEqDiff]
 refine je rfl (qm (jm (qm (SlN.snap hv327 _ hS349 rfl Server.RO) (qm (SlF.snap hv331 (Sep.m1 hS349) rfl (fun _=>rfl) (fun _=>rfl)) (qm (SlF.snap hv335
   (Sep.m2 hS349) rfl (fun _=>rfl) (fun _=>rfl)) qz)))) (qm zb qz)) (qk0 (fun b hb=>decide_eq_true hb) v322.1 v322.2 v350 hx351) ?_
 simp only [qd,yu,qb,yz,yy,qa,q0x,qg,qf,qo,B0,reduceIte,reduceEqDiff]
 refine qh (v := .agg [v325,v329,v333]) rfl ?_
 obtain ⟨v353,hx354,hF355⟩:=qj hF352
 simp only [qd,qv,B0,reduceIte,reduceEqDiff]
 refine je rfl (qm (jm (qm (SlN.snap hv327 _ hS349 rfl Server.RO) (qm (SlF.snap hv331 (Sep.m1 hS349) rfl (fun _=>rfl) (fun _=>rfl)) (qm (SlF.snap hv335
   (Sep.m2 hS349) rfl (fun _=>rfl) (fun _=>rfl)) qz)))) (qm zb qz)) (qli (fun b hb=>decide_eq_true hb) v322.1 v322.2 v353 hx354) ?_
 obtain ⟨v356,hx357,hF358⟩:=qj hF355
 simp only [qd,yu,qb,yz,yy,qa,q6f,qg,qf,f321,qv,B0,reduceIte,reduceEqDiff]
 refine qb7 rfl hS349 (qm zm qz) (qjx (fun b hb=>decide_eq_true hb) k v_1 v356 hx357) ?_
 rintro _ h371 ⟨v359,c360,v363,c364,v367,c368,rfl,hv361,hv365,hv369,hS372⟩
 refine ⟨_,qcv (qq (qbw (qq (SlN.free1 hv361) (qq (SlF.free1 hv365) (qq (SlF.free1 hv369) zo)))) (qq rfl zo)),hS372,
   (jq (SlN.pf hv361 Server.RO) (jq (SlF.pf hv365 (fun _=>rfl)) (jq (SlF.pf hv369 (fun _=>rfl)) uf))),fun h373 hS374=>?_⟩
 have hS375:Sep h373 (geL h.length) (c360++(c364++(c368++(c326++(c330++(c334++([]))))))):=by simpa only [List.append_assoc,List.nil_append] using hS374
 simp only [qd,yu,qb,yz,yy,jg,B0,reduceIte,reduceEqDiff]
 refine zw hS375 (fun b376 h377 hS378=>?_)
 simp only [zl,B0,reduceIte,reduceEqDiff]
 refine q9 (us:=[v359,v363,v367]) rfl (cs':=[v359,v363,
   v367]) hS378 hW rfl (qq (SlN.one hv361) (qq (SlF.one hv365) (qq (SlF.one hv369) zo))) (nle rfl) rfl (fun h380 hS381=>?_)
 simp only [qd,qa,B0,reduceIte,reduceEqDiff]
 refine zy hS381 hW (by simp only [B0,reduceIte,reduceEqDiff]) (fun h382 hS383=>?_)
 simp only [zv,q29,qg,qf,qo,B0,reduceIte,reduceEqDiff]
 refine qh (v := .agg [v359,v363,v367]) rfl ?_
 obtain ⟨v384,hx385,hF386⟩:=qj hF358
 simp only [qd,qv,B0,reduceIte,reduceEqDiff]
 refine je rfl (qm (jm (qm (SlN.snap hv361 _ hS383 rfl Server.RO) (qm (SlF.snap hv365 (Sep.m1 hS383) rfl (fun _=>rfl) (fun _=>rfl)) (qm (SlF.snap hv369
   (Sep.m2 hS383) rfl (fun _=>rfl) (fun _=>rfl)) qz)))) (qm zb qz)) (ql1 (fun b hb=>decide_eq_true hb) v356.1 v356.2 v384 hx385) ?_
 simp only [qd,yu,qb,yz,yy,qa,qz4,qg,qf,qo,B0,reduceIte,reduceEqDiff]
 refine qh (v := .agg [v359,v363,v367]) rfl ?_
 obtain ⟨v387,hx388,hF389⟩:=qj hF386
 simp only [qd,qv,B0,reduceIte,reduceEqDiff]
 refine je rfl (qm (jm (qm (SlN.snap hv361 _ hS383 rfl Server.RO) (qm (SlF.snap hv365 (Sep.m1 hS383) rfl (fun _=>rfl) (fun _=>rfl)) (qm (SlF.snap hv369
   (Sep.m2 hS383) rfl (fun _=>rfl) (fun _=>rfl)) qz)))) (qm zb qz)) (qma (fun b hb=>decide_eq_true hb) v356.1 v356.2 v387 hx388) ?_
 obtain ⟨v390,hx391,hF392⟩:=qj hF389
 simp only [qd,yu,qb,yz,yy,qa,q4j,qg,qf,f321,qv,B0,reduceIte,reduceEqDiff]
 refine qb7 rfl hS383 (qm zm qz) (qji (fun b hb=>decide_eq_true hb) k v_1 v390 hx391) ?_
 rintro _ h401 ⟨v393,c394,v397,c398,rfl,hv395,hv399,hS402⟩
 refine ⟨_,qcv (qq (qij (SlF.free1 hv395)) (qq (qij (SlF.free1 hv399)) zo)),hS402,
   (jq (SlF.pf hv395 (fun _=>rfl)) (jq (SlF.pf hv399 (fun _=>rfl)) uf)),fun h403 hS404=>?_⟩
 have hS405:Sep h403 (geL h.length) (c394++(c398++(c360++(c364++(c368++(c326++(c330++(c334++([]))))))))):=by simpa only [List.append_assoc,
   List.nil_append] using hS404
 obtain ⟨v406,hx407,hF408⟩:=qj hF392
 simp only [qd,yu,qb,yz,yy,qa,q4g,qg,qf,qv,B0,reduceIte,reduceEqDiff]
 refine je rfl (qm (SlF.snap hv395 hS405 rfl (fun _=>rfl) (fun _=>rfl)) (qm (SlF.snap hv399 (Sep.m1 hS405) rfl (fun _=>rfl) (fun _=>rfl)) qz))
   (qhs (fun b hb=>decide_eq_true hb) v390.1 v390.2 v406 hx407) ?_
 obtain ⟨v409,hx410,hF411⟩:=qj hF408
 simp only [qd,yu,qb,yz,yy,qa,q6p,qg,qf,qv,B0,reduceIte,reduceEqDiff]
 refine je rfl (qm (SlF.snap hv395 hS405 rfl (fun _=>rfl) (fun _=>rfl)) (qm (SlF.snap hv399 (Sep.m1 hS405) rfl (fun _=>rfl) (fun _=>rfl)) qz))
   (qk6 (fun b hb=>decide_eq_true hb) v390.1 v390.2 v409 hx410) ?_
 obtain ⟨v412,hx413,hF414⟩:=qj hF411
 simp only [qd,yu,qb,yz,yy,qa,q4a,qg,qf,f321,qv,B0,reduceIte,reduceEqDiff]
 refine qb7 rfl hS405 (qm zm qz) (qh7 (fun b hb=>decide_eq_true hb) k v_1 v412 hx413) ?_
 rintro v415 h419 ⟨_,c416,rfl,hv417,hS420⟩
 refine ⟨_,q9m (SlN.free1 hv417),hS420,(jq (SlN.pf hv417 RL44O) uf),fun h421 hS422=>?_⟩
 have hS423:Sep h421 (geL h.length) (c416++(c394++(c398++(c360++(c364++(c368++(c326++(c330++(c334++([])))))))))):=by simpa only [List.append_assoc,
   List.nil_append] using hS422
 obtain ⟨v424,hx425,hF426⟩:=qj hF414
 simp only [qd,qa,q2u,qg,qf,qv,B0,reduceIte,reduceEqDiff]
 refine je rfl (qm (SlN.snap hv417 _ hS423 rfl RL44O) qz) (qjq (fun b hb=>decide_eq_true hb) v412 v424 hx425) ?_
 simp only [qd,yu,qb,yz,yy,jg,B0,reduceIte,reduceEqDiff]
 refine zw hS423 (fun b427 h428 hS429=>?_)
 simp only [zl,B0,reduceIte,reduceEqDiff]
 refine q9 (us:=[lst qi v424.1.Servers,lst qe v424.1.Post,lst ql v424.1.Led]) rfl (cs':=[lst qi v424.1.Servers,
   lst qe v424.1.Post,lst ql v424.1.Led]) hS429 hW rfl rfl (nle rfl) rfl (fun h431 hS432=>?_)
 simp only [qd,qa,B0,reduceIte,reduceEqDiff]
 refine zy hS432 hW (by simp only [B0,reduceIte,reduceEqDiff]) (fun h433 hS434=>?_)
 obtain ⟨v435,hx436,hF437⟩:=qj hF426
 simp only [zv,q52,qg,qf,qd,qv,B0,reduceIte,reduceEqDiff]
 refine qb7 rfl hS434 (qm (SlN.snap hv417 _ hS434 rfl RL44O) qz) (qd4 (fun b hb=>decide_eq_true hb) v412 v435 hx436) ?_
 rintro _ h450 ⟨v438,c439,v442,c443,v446,c447,rfl,hv440,hv444,hv448,hS451⟩
 refine ⟨_,qcv (qq (qbw (qq (SlN.free1 hv440) (qq (SlF.free1 hv444) (qq (SlF.free1 hv448) zo)))) (qq rfl zo)),hS451,
   (jq (SlN.pf hv440 Server.RO) (jq (SlF.pf hv444 (fun _=>rfl)) (jq (SlF.pf hv448 (fun _=>rfl)) uf))),fun h452 hS453=>?_⟩
 have hS454:Sep h452 (geL h.length) (c439++(c443++(c447++(c416++(c394++(c398++(c360++(c364++(c368++(c326++(c330++(c334 ++
   ([]))))))))))))):=by simpa only [List.append_assoc,List.nil_append] using hS453
 simp only [qd,yu,qb,yz,yy,jg,B0,reduceIte,reduceEqDiff]
 refine zw hS454 (fun b455 h456 hS457=>?_)
 simp only [zl,B0,reduceIte,reduceEqDiff]
 refine q9 (us:=[v438,v442,v446]) rfl (cs':=[v438,v442,
   v446]) hS457 hW rfl (qq (SlN.one hv440) (qq (SlF.one hv444) (qq (SlF.one hv448) zo))) (nle rfl) rfl (fun h459 hS460=>?_)
 simp only [qd,qa,B0,reduceIte,reduceEqDiff]
 refine zy hS460 hW (by simp only [B0,reduceIte,reduceEqDiff]) (fun h461 hS462=>?_)
 simp only [zv,q3g,qg,qf,qd,qe7,qb,qem,B0,reduceIte,reduceEqDiff]
 refine z7 4 (fun fr' h'=>Sep h' (geL h.length) (c394++(c398++(c439++(c443++(c447++([]))))))∧fr' 207 = .bool ((!(v350.2 == v353.2))||(decide
   (v350.1≠v353.1)))∧fr' 22 = .bool v384.1∧fr' 23 = .bool v384.2∧fr' 24 = .bool v387.1∧fr' 25 = .bool v387.2∧fr' 26=v393∧fr' 27=v397∧fr' 28 = .bool v406.1∧fr' 29 = .bool v406.2∧fr' 30 = .bool v409.1∧fr' 31 = .bool v409.2∧fr' 33 = .ref [lst qi v424.1.Servers,
   lst qe v424.1.Post,lst ql v424.1.Led] 0∧fr' 34 = .bool v424.2∧fr' 35 = .ref [v438,v442,v446] 0∧fr' 36 = .bool v435.2) (fun Q463 hN464=>?_) ?_
 ·simp only [List.take_succ_cons,List.take_zero]
  simp only [qc (g:=203),B0,reduceIte,reduceEqDiff]
  refine qy (t:=(!(v350.2 == v353.2))) (fun hg465=>?_) (fun hg465=>?_)
  ·simp only [hg465,qc (g:=203),zq,qs,qb,zj,qa,qn,B0,reduceIte,reduceEqDiff]
   exact hN464 _ _ ⟨(Sep.m4 (Sep.m4 (Sep.m2 (Sep.m2 (Sep.m2 (Sep.dc (Sep.m5 (Sep.dc (Sep.m5 (Sep.dc (Sep.m5 (Sep.dc (Sep.m5 (Sep.dc (Sep.m5 (Sep.dc (Sep.m5 (Sep.dc
     (Sep.m3 hS462))))))))))))))))))),by rw [orT hg465]; simp only [B0,reduceIte,reduceEqDiff],rfl,rfl,rfl,rfl,rfl,rfl,rfl,rfl,rfl,rfl,rfl,rfl,rfl,rfl⟩
  ·simp only [hg465,qc (g:=203),qp,qd,qx,qb,qd1,qs,zk,qa,qn,B0,reduceIte,reduceEqDiff]
   exact hN464 _ _ ⟨(Sep.m4 (Sep.m4 (Sep.m2 (Sep.m2 (Sep.m2 (Sep.dc (Sep.m5 (Sep.dc (Sep.m5 (Sep.dc (Sep.m5 (Sep.dc (Sep.m5 (Sep.dc (Sep.m5 (Sep.dc (Sep.m5 (Sep.dc
     (Sep.m3 hS462))))))))))))))))))),by rw [orF hg465]; simp only [B0,reduceIte,reduceEqDiff],rfl,rfl,rfl,rfl,rfl,rfl,rfl,rfl,rfl,rfl,rfl,rfl,rfl,rfl⟩
 rintro fr466 h482 ⟨hS483,f467,f468,f469,f470,f471,f472,f473,f474,f475,f476,f477,f478,f479,f480,f481⟩
 simp only [List.drop_succ_cons,List.drop_zero]
 simp only [f467,qd,B0,reduceIte,reduceEqDiff]
 refine z7 4 (fun fr' h'=>Sep h' (geL h.length) (c394++(c398++(c439++(c443++(c447++([]))))))∧fr' 212 = .bool (((!(v350.2 == v353.2))||(decide
   (v350.1≠v353.1)))||(!(v384.2 == v387.2)))∧fr' 22 = .bool v384.1∧fr' 24 = .bool v387.1∧fr' 26=v393∧fr' 27=v397∧fr' 28 = .bool v406.1∧fr' 29 = .bool v406.2∧fr' 30 = .bool v409.1∧fr' 31 = .bool v409.2∧fr' 33 = .ref [lst qi v424.1.Servers,
   lst qe v424.1.Post,lst ql v424.1.Led] 0∧fr' 34 = .bool v424.2∧fr' 35 = .ref [v438,v442,v446] 0∧fr' 36 = .bool v435.2) (fun Q484 hN485=>?_) ?_
 ·simp only [List.take_succ_cons,List.take_zero]
  simp only [qc (g:=208),B0,reduceIte,reduceEqDiff]
  refine qy (t:=((!(v350.2 == v353.2))||(decide (v350.1≠v353.1)))) (fun hg486=>?_) (fun hg486=>?_)
  ·simp only [hg486,qc (g:=208),zq,qs,qb,zj,qa,qn,B0,reduceIte,reduceEqDiff]
   exact hN485 _ _ ⟨(Sep.m4 (Sep.m4 (Sep.m4 (Sep.m4 (Sep.m4 hS483))))),by rw [orT hg486]; simp only [B0,reduceIte,reduceEqDiff],f468,f470,f472,f473,f474,f475,f476,
     f477,f478,f479,f480,f481⟩
  ·simp only [hg486,qc (g:=208),qp,f469,qd,f471,qe7,qb,qem,qs,zk,qa,qn,B0,reduceIte,reduceEqDiff]
   exact hN485 _ _ ⟨(Sep.m4 (Sep.m4 (Sep.m4 (Sep.m4 (Sep.m4 hS483))))),by rw [orF hg486]; simp only [B0,reduceIte,reduceEqDiff],f468,f470,f472,f473,f474,f475,f476,
     f477,f478,f479,f480,f481⟩
 rintro fr487 h501 ⟨hS502,f488,f489,f490,f491,f492,f493,f494,f495,f496,f497,f498,f499,f500⟩
 simp only [List.drop_succ_cons,List.drop_zero]
 simp only [f488,qd,B0,reduceIte,reduceEqDiff]
 refine z7 4 (fun fr' h'=>Sep h' (geL h.length) (c394++(c398++(c439++(c443++(c447++([]))))))∧fr' 217 = .bool ((((!(v350.2 == v353.2))||(decide
   (v350.1≠v353.1)))||(!(v384.2 == v387.2))) ||
   (!(v384.1 == v387.1)))∧fr' 26=v393∧fr' 27=v397∧fr' 28 = .bool v406.1∧fr' 29 = .bool v406.2∧fr' 30 = .bool v409.1∧fr' 31 = .bool v409.2∧fr' 33 = .ref [lst qi v424.1.Servers,
   lst qe v424.1.Post,lst ql v424.1.Led] 0∧fr' 34 = .bool v424.2∧fr' 35 = .ref [v438,v442,v446] 0∧fr' 36 = .bool v435.2) (fun Q503 hN504=>?_) ?_
 ·simp only [List.take_succ_cons,List.take_zero]
  simp only [qc (g:=213),B0,reduceIte,reduceEqDiff]
  refine qy (t:=(((!(v350.2 == v353.2))||(decide (v350.1≠v353.1)))||(!(v384.2 == v387.2)))) (fun hg505=>?_) (fun hg505=>?_)
  ·simp only [hg505,qc (g:=213),zq,qs,qb,zj,qa,qn,B0,reduceIte,reduceEqDiff]
   exact hN504 _ _ ⟨(Sep.m4 (Sep.m4 (Sep.m4 (Sep.m4 (Sep.m4 hS502))))),by rw [orT hg505]; simp only [B0,reduceIte,reduceEqDiff],f491,f492,f493,f494,f495,f496,f497,
     f498,f499,f500⟩
  ·simp only [hg505,qc (g:=213),qp,f489,qd,f490,qe7,qb,qem,qs,zk,qa,qn,B0,reduceIte,reduceEqDiff]
   exact hN504 _ _ ⟨(Sep.m4 (Sep.m4 (Sep.m4 (Sep.m4 (Sep.m4 hS502))))),by rw [orF hg505]; simp only [B0,reduceIte,reduceEqDiff],f491,f492,f493,f494,f495,f496,f497,
     f498,f499,f500⟩
 rintro fr506 h518 ⟨hS519,f507,f508,f509,f510,f511,f512,f513,f514,f515,f516,f517⟩
 simp only [List.drop_succ_cons,List.drop_zero]
 simp only [f507,qd,B0,reduceIte,reduceEqDiff]
 refine z7 4 (fun fr' h'=>Sep h' (geL h.length) (c394++(c398++(c439++(c443++(c447++([]))))))∧fr' 222 = .bool (((((!(v350.2 == v353.2))||(decide
   (v350.1≠v353.1)))||(!(v384.2 == v387.2)))||(!(v384.1 == v387.1))) ||
   (!(v406.2 == v409.2)))∧fr' 26=v393∧fr' 27=v397∧fr' 28 = .bool v406.1∧fr' 29 = .bool v406.2∧fr' 30 = .bool v409.1∧fr' 33 = .ref [lst qi v424.1.Servers,
   lst qe v424.1.Post,lst ql v424.1.Led] 0∧fr' 34 = .bool v424.2∧fr' 35 = .ref [v438,v442,v446] 0∧fr' 36 = .bool v435.2) (fun Q520 hN521=>?_) ?_
 ·simp only [List.take_succ_cons,List.take_zero]
  simp only [qc (g:=218),B0,reduceIte,reduceEqDiff]
  refine qy (t:=((((!(v350.2 == v353.2))||(decide (v350.1≠v353.1)))||(!(v384.2 == v387.2)))||(!(v384.1 == v387.1)))) (fun hg522=>?_) (fun hg522=>?_)
  ·simp only [hg522,qc (g:=218),zq,qs,qb,zj,qa,qn,B0,reduceIte,reduceEqDiff]
   exact hN521 _ _ ⟨(Sep.m4 (Sep.m4 (Sep.m4 (Sep.m4 (Sep.m4 hS519))))),by rw [orT hg522]; simp only [B0,reduceIte,reduceEqDiff],f508,f509,f510,f511,f512,f514,f515,
     f516,f517⟩
  ·simp only [hg522,qc (g:=218),qp,f511,qd,f513,qe7,qb,qem,qs,zk,qa,qn,B0,reduceIte,reduceEqDiff]
   exact hN521 _ _ ⟨(Sep.m4 (Sep.m4 (Sep.m4 (Sep.m4 (Sep.m4 hS519))))),by rw [orF hg522]; simp only [B0,reduceIte,reduceEqDiff],f508,f509,f510,f511,f512,f514,f515,
     f516,f517⟩
 rintro fr523 h534 ⟨hS535,f524,f525,f526,f527,f528,f529,f530,f531,f532,f533⟩
 simp only [List.drop_succ_cons,List.drop_zero]
 simp only [f524,qd,B0,reduceIte,reduceEqDiff]
 refine z7 4 (fun fr' h'=>Sep h' (geL h.length) (c394++(c398++(c439++(c443++(c447++([]))))))∧fr' 227 = .bool ((((((!(v350.2 == v353.2))||(decide
   (v350.1≠v353.1)))||(!(v384.2 == v387.2)))||(!(v384.1 == v387.1)))||(!(v406.2 == v409.2))) ||
   (!(v406.1 == v409.1)))∧fr' 26=v393∧fr' 27=v397∧fr' 28 = .bool v406.1∧fr' 29 = .bool v406.2∧fr' 33 = .ref [lst qi v424.1.Servers,
   lst qe v424.1.Post,lst ql v424.1.Led] 0∧fr' 34 = .bool v424.2∧fr' 35 = .ref [v438,v442,v446] 0∧fr' 36 = .bool v435.2) (fun Q536 hN537=>?_) ?_
 ·simp only [List.take_succ_cons,List.take_zero]
  simp only [qc (g:=223),B0,reduceIte,reduceEqDiff]
  refine qy (t:=(((((!(v350.2 == v353.2))||(decide (v350.1≠v353.1)))||(!(v384.2 == v387.2)))||(!(v384.1 == v387.1)))||(!(v406.2 == v409.2))))
    (fun hg538=>?_) (fun hg538=>?_)
  ·simp only [hg538,qc (g:=223),zq,qs,qb,zj,qa,qn,B0,reduceIte,reduceEqDiff]
   exact hN537 _ _ ⟨(Sep.m4 (Sep.m4 (Sep.m4 (Sep.m4 (Sep.m4 hS535))))),by rw [orT hg538]; simp only [B0,reduceIte,reduceEqDiff],f525,f526,f527,f528,f530,f531,f532,
     f533⟩
  ·simp only [hg538,qc (g:=223),qp,f527,qd,f529,qe7,qb,qem,qs,zk,qa,qn,B0,reduceIte,reduceEqDiff]
   exact hN537 _ _ ⟨(Sep.m4 (Sep.m4 (Sep.m4 (Sep.m4 (Sep.m4 hS535))))),by rw [orF hg538]; simp only [B0,reduceIte,reduceEqDiff],f525,f526,f527,f528,f530,f531,f532,
     f533⟩
 rintro fr539 h549 ⟨hS550,f540,f541,f542,f543,f544,f545,f546,f547,f548⟩
 simp only [List.drop_succ_cons,List.drop_zero]
 simp only [f540,qd,B0,reduceIte,reduceEqDiff]
 refine z7 4 (fun fr' h'=>Sep h' (geL h.length) (c394++(c398++(c439++(c443++(c447++([]))))))∧fr' 232 = .bool (((((((!(v350.2 == v353.2))||(decide
   (v350.1≠v353.1)))||(!(v384.2 == v387.2)))||(!(v384.1 == v387.1)))||(!(v406.2 == v409.2)))||(!(v406.1 == v409.1))) ||
   (!(v424.2 == v435.2)))∧fr' 26=v393∧fr' 27=v397∧fr' 28 = .bool v406.1∧fr' 29 = .bool v406.2∧fr' 33 = .ref [lst qi v424.1.Servers,
   lst qe v424.1.Post,lst ql v424.1.Led] 0∧fr' 35 = .ref [v438,v442,v446] 0) (fun Q551 hN552=>?_) ?_
 ·simp only [List.take_succ_cons,List.take_zero]
  simp only [qc (g:=228),B0,reduceIte,reduceEqDiff]
  refine qy (t:=((((((!(v350.2 == v353.2))||(decide (v350.1≠v353.1)))||(!(v384.2 == v387.2)))||(!(v384.1 == v387.1)))||(!(v406.2 == v409.2))) ||
    (!(v406.1 == v409.1)))) (fun hg553=>?_) (fun hg553=>?_)
  ·simp only [hg553,qc (g:=228),zq,qs,qb,zj,qa,qn,B0,reduceIte,reduceEqDiff]
   exact hN552 _ _ ⟨(Sep.m4 (Sep.m4 (Sep.m4 (Sep.m4 (Sep.m4 hS550))))),by rw [orT hg553]; simp only [B0,reduceIte,reduceEqDiff],f541,f542,f543,f544,f545,f547⟩
  ·simp only [hg553,qc (g:=228),qp,f546,qd,f548,qe7,qb,qem,qs,zk,qa,qn,B0,reduceIte,reduceEqDiff]
   exact hN552 _ _ ⟨(Sep.m4 (Sep.m4 (Sep.m4 (Sep.m4 (Sep.m4 hS550))))),by rw [orF hg553]; simp only [B0,reduceIte,reduceEqDiff],f541,f542,f543,f544,f545,f547⟩
 rintro fr554 h562 ⟨hS563,f555,f556,f557,f558,f559,f560,f561⟩
 simp only [List.drop_succ_cons,List.drop_zero]
 simp only [f555,qd,B0,reduceIte,reduceEqDiff]
 obtain ⟨v567,hx568,hF569⟩:=qj hF437
 refine z7 5 (fun fr' h'=>Sep h' (geL h.length) (c394++(c398 ++
   ([])))∧fr' 238 = .bool v567∧fr' 26=v393∧fr' 27=v397∧fr' 28 = .bool v406.1∧fr' 29 = .bool v406.2) (fun Q564 hN565=>?_) ?_
 ·simp only [List.take_succ_cons,List.take_zero]
  simp only [qc (g:=233),B0,reduceIte,reduceEqDiff]
  refine qy (t:=(((((((!(v350.2 == v353.2))||(decide (v350.1≠v353.1)))||(!(v384.2 == v387.2)))||(!(v384.1 == v387.1)))||(!(v406.2 == v409.2))) ||
    (!(v406.1 == v409.1)))||(!(v424.2 == v435.2)))) (fun hg566=>?_) (fun hg566=>?_)
  ·rw [iteT hg566] at hx568
   simp only [hg566,qc (g:=233),zq,qs,qb,zj,qa,qn,B0,reduceIte,reduceEqDiff]
   have e570:=qk hx568
   exact hN565 _ _ ⟨(Sep.m1 (Sep.m1 (Sep.dc (Sep.m2 (Sep.dc (Sep.m2 (Sep.dc (Sep.m2 hS563)))))))),by rw [←e570]; simp only [B0,reduceIte,reduceEqDiff],f556,f557,f558,
     f559⟩
  ·rw [iteF hg566] at hx568
   simp only [hg566,qc (g:=233),qp,f560,qo,B0,reduceIte,reduceEqDiff]
   refine qh (v := .agg [lst qi v424.1.Servers,lst qe v424.1.Post,lst ql v424.1.Led]) rfl ?_
   simp only [hg566,qc (g:=233),qp,f561,qo,B0,reduceIte,reduceEqDiff]
   refine qh (v := .agg [v438,v442,v446]) rfl ?_
   obtain ⟨v571,hx572,hF573⟩:=qj hx568
   simp only [hg566,qc (g:=233),qp,qv,B0,reduceIte,reduceEqDiff]
   refine je rfl (qm (jm (qm zm (qm zm (qm zm qz)))) (qm (jm (qm (SlN.snap hv440 _ (Sep.m2 hS563) rfl Server.RO) (qm
     (SlF.snap hv444 (Sep.m3 hS563) rfl (fun _=>rfl) (fun _=>rfl)) (qm (SlF.snap hv448 (Sep.m4 hS563) rfl (fun _=>rfl) (fun _=>rfl)) qz)))) qz))
     (qfg (fun b hb=>decide_eq_true hb) v424.1 v435.1 v571 hx572) ?_
   simp only [hg566,qc (g:=233),qp,jj,qb,j9,qs,zk,qa,qn,B0,reduceIte,reduceEqDiff]
   have e574:=qk hF573
   exact hN565 _ _ ⟨(Sep.m1 (Sep.m1 (Sep.dc (Sep.m2 (Sep.dc (Sep.m2 (Sep.dc (Sep.m2 hS563)))))))),by rw [←e574]; simp only [B0,reduceIte,reduceEqDiff],f556,f557,f558,
     f559⟩
 rintro fr575 h581 ⟨hS582,f576,f577,f578,f579,f580⟩
 simp only [List.drop_succ_cons,List.drop_zero]
 simp only [qa,f576,ze,B0,reduceIte,reduceEqDiff]
 refine zf (t:=v567) (fun hc583=>?_) (fun hc583=>?_)
 ·rw [iteT hc583] at hF569
  simp only [qg,qf,qd,qa,za,B0,reduceIte,reduceEqDiff]
  have he:=qk hF569
  subst he
  simp only [zp,B0,reduceIte,reduceEqDiff]
  exact rfl
 rw [iteF hc583] at hF569
 simp only [zi,q5q,qg,qf,f580,qd,qa,q4l,ze,B0,reduceIte,reduceEqDiff]
 refine zf (t:=v406.2) (fun hc584=>?_) (fun hc584=>?_)
 ·rw [iteT hc584] at hF569
  obtain ⟨v585,hx586,hF587⟩:=qj hF569
  simp only [q1e,qg,qf,f578,qd,f577,qv,B0,reduceIte,reduceEqDiff]
  refine je rfl (qm (SlF.snap hv399 (Sep.m1 hS582) rfl (fun _=>rfl) (fun _=>rfl)) (qm (SlF.snap hv395 hS582 rfl (fun _=>rfl) (fun _=>rfl)) qz))
    (qhs (fun b hb=>decide_eq_true hb) v390.2 v390.1 v585 hx586) ?_
  simp only [qd,yu,qb,yz,yy,qa,q9x,qg,qf,B0,reduceIte,reduceEqDiff]
  refine z7 5 (fun fr' h'=>Sep h' (geL h.length) ([])∧fr' 252 = .bool (v585.2&&(v406.1||v585.1))) (fun Q588 hN589=>?_) ?_
  ·simp only [List.take_succ_cons,List.take_zero]
   simp only [qc (g:=247),B0,reduceIte,reduceEqDiff]
   refine qy (t:=v585.2) (fun hg590=>?_) (fun hg590=>?_)
   ·simp only [hg590,qc (g:=247),zg,f579,qd,B0,reduceIte,reduceEqDiff]
    refine z7 2 (fun fr' h'=>Sep h' (geL h.length) ([])∧fr' 251 = .bool (v406.1||v585.1)∧fr' 247 = .bool v585.2) (fun Q591 hN592=>?_) ?_
    ·simp only [List.take_succ_cons,List.take_zero]
     simp only [qc (g:=249),B0,reduceIte,reduceEqDiff]
     refine qy (t:=v406.1) (fun hg593=>?_) (fun hg593=>?_)
     ·simp only [hg593,qc (g:=249),zq,hg590,qc (g:=247),zg,qs,qb,zj,qa,qn,B0,reduceIte,
       reduceEqDiff]
      exact hN592 _ _ ⟨(Sep.dc ((Sep.dc (hS582)))),by rw [orT hg593]; simp only [B0,reduceIte,reduceEqDiff],by simp only [hg590,B0,reduceIte,reduceEqDiff]⟩
     ·simp only [hg593,qc (g:=249),qp,qd,hg590,qc (g:=247),zg,qs,qb,zk,qa,qn,B0,
       reduceIte,reduceEqDiff]
      exact hN592 _ _ ⟨(Sep.dc ((Sep.dc (hS582)))),by rw [orF hg593]; simp only [B0,reduceIte,reduceEqDiff],by simp only [hg590,B0,reduceIte,reduceEqDiff]⟩
    rintro fr594 h597 ⟨hS598,f595,f596⟩
    simp only [List.drop_succ_cons,List.drop_zero]
    simp only [f596,hg590,qs,qb,zj,f595,qa,qn,B0,reduceIte,reduceEqDiff]
    exact hN589 _ _ ⟨hS598,by rw [xl hg590]; simp only [B0,reduceIte,reduceEqDiff]⟩
   ·simp only [hg590,qc (g:=247),jl,qc (g:=249),ym,qs,qb,zk,qa,qn,B0,reduceIte,reduceEqDiff]
    exact hN589 _ _ ⟨(Sep.dc ((Sep.dc (hS582)))),by rw [xm hg590]; simp only [B0,reduceIte,reduceEqDiff]⟩
  rintro fr599 h601 ⟨hS602,f600⟩
  simp only [List.drop_succ_cons,List.drop_zero]
  simp only [f600,qd,qa,za,B0,reduceIte,reduceEqDiff]
  have he:=qk hF587
  subst he
  simp only [zp,B0,reduceIte,reduceEqDiff]
  exact rfl
 rw [iteF hc584] at hF569
 simp only [zi,qg,qf,qd,qa,za,B0,reduceIte,reduceEqDiff]
 have he:=qk hF569
 subst he
 simp only [zp,B0,reduceIte,reduceEqDiff]
 exact rfl
end Go.Proofs.Ytpddolihbnfahaa.X
