/- The functions' code comes to what the plain functions say (7). -/
import Derived.Test.YtpddolihbnfahaaXCH6
set_option linter.unusedVariables false
set_option linter.unusedSimpArgs false
set_option maxRecDepth 100000
namespace Go.Proofs.Ytpddolihbnfahaa.X
open Go
open Nat (reduceEqDiff)
theorem qhx {W:Nat→Bool}{h:Heap} (hW:∀ b,
  (geL h.length) b→W b=true) (k:Nat) (v_0:List Int) (v_1:List Int) (r:Bool) (hF:qfb k v_0 v_1=some r) : Ret E W 4 [lst cU8 v_0,
  lst cU8 v_1] h (fun v h'=>cut h.length h' E.sz false 9 v=some (.bool r)):=by
 refine Ret.of (fn:=x4) rfl (Run.of ?_)
 unfold qfb at hF
 have zf0:ze [lst cU8 v_0,lst cU8 v_1] 0=lst cU8 v_0:=rfl
 have zf1:ze [lst cU8 v_0,lst cU8 v_1] 1=lst cU8 v_1:=rfl
 generalize ze [lst cU8 v_0,lst cU8 v_1]=fr0 at zf0 zf1 ⊢
 have hS:Sep h (geL h.length) []:=Sep.nil h
 simp only [x4,qf,qe,qd,qa,qxz,zf0,zo,qb,zt,zf1,qu,xl,wd,zb,B0,reduceIte,reduceEqDiff]
 refine zc (t:=(decide ((1048576:Int)<(IntKind.wrap .i64 ((List.length v_0:Int)+(List.length v_1:Int)))))) (fun hc1=>?_) (fun hc1=>?_)
 ·rw [iteT hc1] at hF
  simp only [qf,qe,qd,qa,qz,B0,reduceIte,reduceEqDiff]
  have he:=qi hF
  subst he
  simp only [zm,B0,reduceIte,reduceEqDiff]
  exact rfl
 rw [iteF hc1] at hF
 obtain ⟨v2,hx3,hF4⟩:=qh hF
 simp only [zf,q1v,qf,qe,zf0,qd,qs,B0,reduceIte,reduceEqDiff]
 refine uk rfl hS (qj zj qw) (qf7 (fun b hb=>decide_eq_true hb) k v_0 v2 hx3) ?_
 rintro _ h17 ⟨v5,c6,v9,c10,v13,c14,rfl,hv7,hv11,hv15,hS18⟩
 refine ⟨_,u4 (qn (uj (qn (SlN.free1 hv7) (qn (SlF.free1 hv11) (qn (SlF.free1 hv15) zl)))) (qn (uj (qn rfl (qn rfl zl))) zl)),hS18,
   (jl (SlN.pf hv7 Server.RO) (jl (SlF.pf hv11 (fun _=>rfl)) (jl (SlF.pf hv15 (fun _=>rfl)) wv))),fun h19 hS20=>?_⟩
 have hS21:Sep h19 (geL h.length) (c6++(c10++(c14++([])))):=by simpa only [List.append_assoc,List.nil_append] using hS20
 simp only [qd,ya,qb,yg,ye,jc,B0,reduceIte,reduceEqDiff]
 refine zr hS21 (fun b22 h23 hS24=>?_)
 simp only [jc,B0,reduceIte,reduceEqDiff]
 refine zr hS24 (fun b26 h27 hS28=>?_)
 simp only [zi,B0,reduceIte,reduceEqDiff]
 refine qy (us:=[v5,v9,v13]) rfl (cs':=[v5,v9,
   v13]) (Sep.m1 hS28) hW rfl (qn (SlN.one hv7) (qn (SlF.one hv11) (qn (SlF.one hv15) zl))) (nle rfl) rfl (fun h30 hS31=>?_)
 simp only [zi,B0,reduceIte,reduceEqDiff]
 refine qy (us:=[.int .i64 v2.2.Term,.int .i64 v2.2.Leader]) rfl (cs':=[.int .i64 v2.2.Term,
   .int .i64 v2.2.Leader]) (Sep.m1 hS31) hW rfl rfl (nle rfl) rfl (fun h32 hS33=>?_)
 simp only [qa,B0,reduceIte,reduceEqDiff]
 refine zu (Sep.m1 hS33) hW (by simp only [B0,reduceIte,reduceEqDiff]) (fun h34 hS35=>?_)
 refine zu hS35 hW (by simp only [B0,reduceIte,reduceEqDiff]) (fun h36 hS37=>?_)
 simp only [zq,q05,qf,qe,ql,B0,reduceIte,reduceEqDiff]
 refine qg (v := .agg [v5,v9,v13]) rfl ?_
 simp only [ql,B0,reduceIte,reduceEqDiff]
 refine qg (v := .agg [.int .i64 v2.2.Term,.int .i64 v2.2.Leader]) rfl ?_
 obtain ⟨v38,hx39,hF40⟩:=qh hF4
 simp only [qs,B0,reduceIte,reduceEqDiff]
 refine uk rfl hS37 (qj (jj (qj (SlN.snap hv7 _ hS37 rfl Server.RO) (qj (SlF.snap hv11 (Sep.m1 hS37) rfl (fun _=>rfl) (fun _=>rfl)) (qj (SlF.snap hv15
   (Sep.m2 hS37) rfl (fun _=>rfl) (fun _=>rfl)) qw)))) (qj (jj (qj q8 (qj q8 qw))) qw)) (qhy
   (fun b hb=>decide_eq_true hb) k v2.1 v2.2 v38 hx39) ?_
 rintro _ h53 ⟨v41,c42,v45,c46,v49,c50,rfl,hv43,hv47,hv51,hS54⟩
 refine ⟨_,u4 (qn (uj (qn (SlN.free1 hv43) (qn (SlF.free1 hv47) (qn (SlF.free1 hv51) zl)))) (qn rfl zl)),hS54,
   (jl (SlN.pf hv43 Server.RO) (jl (SlF.pf hv47 (fun _=>rfl)) (jl (SlF.pf hv51 (fun _=>rfl)) wv))),fun h55 hS56=>?_⟩
 have hS57:Sep h55 (geL h.length) (c42++(c46++(c50++(c6++(c10++(c14++([]))))))):=by simpa only [List.append_assoc,List.nil_append] using hS56
 simp only [qd,ya,qb,yg,ye,jc,B0,reduceIte,reduceEqDiff]
 refine zr hS57 (fun b58 h59 hS60=>?_)
 simp only [zi,B0,reduceIte,reduceEqDiff]
 refine qy (us:=[v41,v45,v49]) rfl (cs':=[v41,v45,
   v49]) hS60 hW rfl (qn (SlN.one hv43) (qn (SlF.one hv47) (qn (SlF.one hv51) zl))) (nle rfl) rfl (fun h62 hS63=>?_)
 simp only [qd,qa,B0,reduceIte,reduceEqDiff]
 refine zu hS63 hW (by simp only [B0,reduceIte,reduceEqDiff]) (fun h64 hS65=>?_)
 simp only [zq,qyq,qf,qe,ql,B0,reduceIte,reduceEqDiff]
 refine qg (v := .agg [v5,v9,v13]) rfl ?_
 simp only [ql,B0,reduceIte,reduceEqDiff]
 refine qg (v := .agg [.int .i64 v2.2.Term,.int .i64 v2.2.Leader]) rfl ?_
 obtain ⟨v66,hx67,hF68⟩:=qh hF40
 simp only [qs,B0,reduceIte,reduceEqDiff]
 refine uk rfl hS65 (qj (jj (qj (SlN.snap hv7 _ (Sep.m3 hS65) rfl Server.RO) (qj (SlF.snap hv11 (Sep.m4 hS65) rfl (fun _=>rfl) (fun _=>rfl)) (qj
   (SlF.snap hv15 (Sep.m5 hS65) rfl (fun _=>rfl) (fun _=>rfl)) qw)))) (qj (jj (qj q8 (qj q8 qw))) qw)) (qhw
   (fun b hb=>decide_eq_true hb) k v2.1 v2.2 v66 hx67) ?_
 rintro _ h81 ⟨v69,c70,v73,c74,v77,c78,rfl,hv71,hv75,hv79,hS82⟩
 refine ⟨_,u4 (qn (uj (qn (SlN.free1 hv71) (qn (SlF.free1 hv75) (qn (SlF.free1 hv79) zl)))) (qn rfl zl)),hS82,
   (jl (SlN.pf hv71 Server.RO) (jl (SlF.pf hv75 (fun _=>rfl)) (jl (SlF.pf hv79 (fun _=>rfl)) wv))),fun h83 hS84=>?_⟩
 have hS85:Sep h83 (geL h.length) (c70++(c74++(c78++(c42++(c46++(c50++(c6++(c10++(c14++([])))))))))):=by simpa only [List.append_assoc,
   List.nil_append] using hS84
 simp only [qd,ya,qb,yg,ye,jc,B0,reduceIte,reduceEqDiff]
 refine zr hS85 (fun b86 h87 hS88=>?_)
 simp only [zi,B0,reduceIte,reduceEqDiff]
 refine qy (us:=[v69,v73,v77]) rfl (cs':=[v69,v73,
   v77]) hS88 hW rfl (qn (SlN.one hv71) (qn (SlF.one hv75) (qn (SlF.one hv79) zl))) (nle rfl) rfl (fun h90 hS91=>?_)
 simp only [qd,qa,B0,reduceIte,reduceEqDiff]
 refine zu hS91 hW (by simp only [B0,reduceIte,reduceEqDiff]) (fun h92 hS93=>?_)
 simp only [zq,q08,qf,jr,ja,qo,qs5,qb0,B0,reduceIte,reduceEqDiff]
 simp only [za (g:=65),B0,reduceIte,reduceEqDiff]
 refine ko (t:=(!(v38.2 == v66.2))) (fun hg94=>?_) (fun hg94=>?_)
 ·rw [iteT hg94] at hF68
  simp only [hg94,za (g:=65),wc,kh,qo,zh,ja,za (g:=71),zk,zb,qcm,qf,qe,qd,
    qa,qz,B0,reduceIte,reduceEqDiff]
  have he:=qi hF68
  subst he
  simp only [zm,B0,reduceIte,reduceEqDiff]
  exact rfl
 rw [iteF hg94] at hF68
 simp only [hg94,za (g:=65),zp,zz,B0,reduceIte,reduceEqDiff]
 refine qt (v := .agg [v41,v45,v49]) rfl ?_
 simp only [hg94,za (g:=65),zp,zz,B0,reduceIte,reduceEqDiff]
 refine qt (v := .agg [v69,v73,v77]) rfl ?_
 obtain ⟨v95,hx96,hF97⟩:=qh hF68
 simp only [hg94,za (g:=65),zp,kz,B0,reduceIte,reduceEqDiff]
 refine qak rfl (qj (jj (qj (SlN.snap hv43 _ (Sep.m3 hS93) rfl Server.RO) (qj (SlF.snap hv47 (Sep.m4 hS93) rfl (fun _=>rfl) (fun _=>rfl)) (qj
   (SlF.snap hv51 (Sep.m5 hS93) rfl (fun _=>rfl) (fun _=>rfl)) qw)))) (qj (jj (qj (SlN.snap hv71 _ hS93 rfl Server.RO) (qj (SlF.snap hv75
   (Sep.m1 hS93) rfl (fun _=>rfl) (fun _=>rfl)) (qj (SlF.snap hv79 (Sep.m2 hS93) rfl (fun _=>rfl) (fun _=>rfl)) qw)))) qw)) (qdb
   (fun b hb=>decide_eq_true hb) v38.1 v66.1 v95 hx96) ?_
 simp only [hg94,za (g:=65),zp,qhj,qo,j5,kh,zg,ja,B0,reduceIte,reduceEqDiff]
 simp only [za (g:=71),B0,reduceIte,reduceEqDiff]
 refine ko (t:=(!v95)) (fun hg98=>?_) (fun hg98=>?_)
 ·rw [iteT hg98] at hF97
  simp only [hg98,za (g:=71),wc,kh,qo,zh,zk,zb,qcm,qf,qe,qd,qa,qz,B0,
    reduceIte,reduceEqDiff]
  have he:=qi hF97
  subst he
  simp only [zm,B0,reduceIte,reduceEqDiff]
  exact rfl
 rw [iteF hg98] at hF97
 simp only [hg98,za (g:=71),zp,zz,B0,reduceIte,reduceEqDiff]
 refine qt (v := .agg [v5,v9,v13]) rfl ?_
 obtain ⟨v99,hx100,hF101⟩:=qh hF97
 simp only [hg98,za (g:=71),zp,wo,B0,reduceIte,reduceEqDiff]
 refine qid rfl (qj (jj (qj (SlN.snap hv7 _ (Sep.m6 hS93) rfl Server.RO) (qj (SlF.snap hv11 (Sep.m7 hS93) rfl (fun _=>rfl) (fun _=>rfl)) (qj
   (SlF.snap hv15 (Sep.m8 hS93) rfl (fun _=>rfl) (fun _=>rfl)) qw)))) qw) (qdy (fun b hb=>decide_eq_true hb) v2.1 v99 hx100) ?_
 simp only [hg98,za (g:=71),zp,ws,u1,B0,reduceIte,reduceEqDiff]
 refine qt (v := .agg [v5,v9,v13]) rfl ?_
 obtain ⟨v102,hx103,hF104⟩:=qh hF101
 simp only [hg98,za (g:=71),zp,kz,B0,reduceIte,reduceEqDiff]
 refine qak rfl (qj (jj (qj (SlN.snap hv7 _ (Sep.m6 hS93) rfl Server.RO) (qj (SlF.snap hv11 (Sep.m7 hS93) rfl (fun _=>rfl) (fun _=>rfl)) (qj
   (SlF.snap hv15 (Sep.m8 hS93) rfl (fun _=>rfl) (fun _=>rfl)) qw)))) qw) (wz (fun b hb=>decide_eq_true hb) v2.1 v102 hx103) ?_
 simp only [hg98,za (g:=71),zp,qs5,qo,qb0,kh,zg,zk,zb,B0,reduceIte,reduceEqDiff]
 refine zc (t:=(!(v99 == v102))) (fun hc105=>?_) (fun hc105=>?_)
 ·rw [iteT hc105] at hF104
  simp only [qf,qe,qd,qa,qz,B0,reduceIte,reduceEqDiff]
  have he:=qi hF104
  subst he
  simp only [zm,B0,reduceIte,reduceEqDiff]
  exact rfl
 rw [iteF hc105] at hF104
 simp only [zf,q0k,qf,qe,qd,qa,q51,zb,B0,reduceIte,reduceEqDiff]
 obtain ⟨oc106,hX107,hk108⟩:=kc hF104
 refine w3 (t:=v38.2) (fun fr' h'=>∃ s,oc106 = .nxt s∧fr' 1=lst cU8 v_1∧Sep h' (geL h.length) ([])) (fun Q109 hN110 hR111 hE112=>⟨fun hc113=>?_,
   fun hc113=>?_⟩) ?_
 ·rw [iteT hc113] at hX107
  simp only [q55,qf,qe,qq,qb,Nat.reduceAdd,Nat.zero_add,Nat.add_zero,qr,ql,B0,reduceIte,reduceEqDiff]
  refine qg (v:=v5) rfl ?_
  simp only [zo,qb,SlN.len hv7,qd,qa,B0,reduceIte,reduceEqDiff]
  obtain ⟨oc128,hX130,hk131⟩:=kc hX107
  simp only [q56]
  refine qd1 (σ:=(List Server) × (List Server)) (fun i126 s288=>qaf i126 s288.1 s288.2) (fun s fr' h'=>∃ c121 c124,
    fr' 1=lst cU8 v_1∧fr' 5 = .ref [v5,v9,v13] 0∧fr' 7 = .ref [v41,v45,
    v49] 0∧fr' 80=v5∧SlN Server.R 6 46 v5 s.1 c121∧SlN Server.R 6 46 v41 s.2 c124∧Sep h' (geL h.length) (c121++(c10++(c14++(c124++(c46++(c50 ++
    ([])))))))) hX130 ⟨c6,c42,zf1,rfl,rfl,rfl,hv7,hv43,(Sep.m5 (Sep.m5 (Sep.m5 (Sep.m2 (Sep.m2 (Sep.m2 (Sep.dc ((Sep.dc ((Sep.dc (hS93))))))))))))⟩ (by simp only [B0,
    reduceIte,reduceEqDiff]) (by simp only [B0,reduceIte,
    reduceEqDiff]) (fun _ _ _ h=>h) rfl rfl (fun _ _ _ _ h=>h) (fun _ _ _ _ h=>h) (fun _ _ _ _ h=>h) (by decide) ?_ ?_
  ·rintro i126 ⟨s120,s123⟩ fr140 h141 hx147 ⟨c121,c124,f143,f144,f145,f146,hv122,hv125,hS142⟩ f148 f149 oc129 hF132 hr133 Q134 hN135 hB139 hK136 hR137 hE138
   dsimp only at *
   unfold qaf at hF132
   obtain ⟨x150,hx151,hF152⟩:=qh hF132
   simp only [q5q,qf,qe,f148,qd,f146,jm,B0,reduceIte,reduceEqDiff]
   obtain ⟨b153,hb154⟩:=SlN.isrow hv122 (yn hx151)
   refine qg (SlN.ia hv122 hb154 hx151) ?_
   obtain ⟨c155,cs156,os157,hv158,hR159,hS160⟩:=SlG.opn (SlN.toG hv122 hb154 Server.RO.len) hx151 jq Server.RO.len hS142
   obtain ⟨v162,c163,v166,c167,hv164,hv168,rfl,rfl⟩:=hR159
   have hS161:=Sep.no2 hS160
   simp only [ql,B0,reduceIte,reduceEqDiff]
   refine qg (v := .agg [.int .i64 x150.Term,.int .i64 x150.Voted,.bool x150.Stands,.bool x150.Leads,v162,
     v166]) ((SlG.lds (o:=0) hv158 rfl hx151 hS161 (nle rfl)).trans rfl) ?_
   simp only [jc,B0,reduceIte,reduceEqDiff]
   refine zr hS161 (fun b170 h171 hS172=>?_)
   simp only [qd,zi,B0,reduceIte,reduceEqDiff]
   refine qy (us:=[.int .i64 x150.Term,.int .i64 x150.Voted,.bool x150.Stands,.bool x150.Leads,v162,v166]) rfl (cs':=[.int .i64 x150.Term,.int .i64 x150.Voted,
     .bool x150.Stands,.bool x150.Leads,v162,
     v166]) hS172 hW rfl (qn rfl (qn rfl (qn rfl (qn rfl (qn (SlF.one hv164) (qn (SlF.one hv168) zl)))))) (nle rfl) rfl (fun h174 hS175=>?_)
   simp only [qa,B0,reduceIte,reduceEqDiff]
   refine zu hS175 hW (by simp only [B0,reduceIte,reduceEqDiff]) (fun h176 hS177=>?_)
   simp only [zq,q6j,qf,qe,f145,qq,qb,Nat.reduceAdd,Nat.zero_add,Nat.add_zero,qr,ql,B0,reduceIte,reduceEqDiff]
   refine qg (v:=v41) rfl ?_
   obtain ⟨x178,hx179,hF180⟩:=qh hF152
   simp only [qd,jm,B0,reduceIte,reduceEqDiff]
   obtain ⟨b181,hb182⟩:=SlN.isrow hv125 (yn hx179)
   refine qg (SlN.ia hv125 hb182 hx179) ?_
   obtain ⟨c183,cs184,os185,hv186,hR187,hS188⟩:=SlG.opn (SlN.toG hv125 hb182 Server.RO.len) hx179 jq Server.RO.len (Sep.m5 hS177)
   obtain ⟨v190,c191,v194,c195,hv192,hv196,rfl,rfl⟩:=hR187
   have hS189:=Sep.no2 hS188
   simp only [ql,B0,reduceIte,reduceEqDiff]
   refine qg (v := .agg [.int .i64 x178.Term,.int .i64 x178.Voted,.bool x178.Stands,.bool x178.Leads,v190,
     v194]) ((SlG.lds (o:=0) hv186 rfl hx179 hS189 (nle rfl)).trans rfl) ?_
   simp only [jc,B0,reduceIte,reduceEqDiff]
   refine zr hS189 (fun b198 h199 hS200=>?_)
   simp only [zi,B0,reduceIte,reduceEqDiff]
   refine qy (us:=[.int .i64 x178.Term,.int .i64 x178.Voted,.bool x178.Stands,.bool x178.Leads,v190,v194]) rfl (cs':=[.int .i64 x178.Term,.int .i64 x178.Voted,
     .bool x178.Stands,.bool x178.Leads,v190,
     v194]) hS200 hW rfl (qn rfl (qn rfl (qn rfl (qn rfl (qn (SlF.one hv192) (qn (SlF.one hv196) zl)))))) (nle rfl) rfl (fun h202 hS203=>?_)
   simp only [qa,B0,reduceIte,reduceEqDiff]
   refine zu hS203 hW (by simp only [B0,reduceIte,reduceEqDiff]) (fun h204 hS205=>?_)
   simp only [zq,q6m,qf,qe,qq,qb,Nat.reduceAdd,Nat.zero_add,Nat.add_zero,qr,ql,B0,reduceIte,reduceEqDiff]
   refine qg (v := .int .i64 x178.Term) rfl ?_
   simp only [qq,qb,Nat.reduceAdd,Nat.zero_add,Nat.add_zero,qr,ql,B0,reduceIte,reduceEqDiff]
   refine qg (v := .int .i64 x150.Term) rfl ?_
   simp only [qu,qb,qaq,qd,B0,reduceIte,reduceEqDiff]
   refine zw 18 (fun fr' h'=>Sep h' (geL h.length) (c155++(c10++(c14++(c183++(c46++(c50++(c163++(c167++(c191++(c195++([])))))))))))∧fr' 115 = .bool
     ((decide (x178.Term<x150.Term))||(((decide (x178.Term=x150.Term))&&(decide (x150.Voted≠(-1))))&&(decide
     (x178.Voted≠x150.Voted))))∧fr' 1=lst cU8 v_1∧fr' 5 = .ref [v5,v9,v13] 0∧fr' 7 = .ref [v41,v45,v49] 0∧fr' 12 = .ref [.int .i64 x150.Term,
     .int .i64 x150.Voted,.bool x150.Stands,.bool x150.Leads,v162,v166] 0∧fr' 13 = .ref [.int .i64 x178.Term,.int .i64 x178.Voted,.bool x178.Stands,.bool x178.Leads,
     v190,v194] 0∧fr' 80=v5∧fr' 81 = .int .i64 (List.length v2.1.Servers:Int)∧fr' 82 = .int .i64 (i126:Int)) (fun Q206 hN207=>?_) ?_
   ·simp only [List.take_succ_cons,List.take_zero]
    simp only [qc (g:=97),B0,reduceIte,reduceEqDiff]
    refine qv (t:=(decide (x178.Term<x150.Term))) (fun hg208=>?_) (fun hg208=>?_)
    ·simp only [hg208,qc (g:=97),zn,qc (g:=103),k7,qc (g:=108),qp,qb,zh,qa,qk,B0,
      reduceIte,reduceEqDiff]
     exact hN207 _ _ ⟨(Sep.m9 (Sep.m9 (Sep.m9 (Sep.m6 (Sep.m9 (Sep.m9 (Sep.m5 (Sep.m5 (Sep.m2 (Sep.m2 hS205)))))))))),by rw [orT hg208]; simp only [B0,reduceIte,
       reduceEqDiff],f143,f144,f145,rfl,rfl,f146,f149,f148⟩
    ·simp only [hg208,qc (g:=97),qm,qq,qb,Nat.reduceAdd,Nat.zero_add,Nat.add_zero,qr,ql,B0,reduceIte,reduceEqDiff]
     refine qg (v := .int .i64 x178.Term) rfl ?_
     simp only [hg208,qc (g:=97),qm,qq,qb,Nat.reduceAdd,Nat.zero_add,Nat.add_zero,qr,ql,B0,reduceIte,reduceEqDiff]
     refine qg (v := .int .i64 x150.Term) rfl ?_
     simp only [hg208,qc (g:=97),qm,qu,qb,ky,qd,B0,reduceIte,reduceEqDiff]
     refine zw 4 (fun fr' h'=>Sep h' (geL h.length) (c155++(c10++(c14++(c183++(c46++(c50++(c163++(c167++(c191++(c195 ++
       ([])))))))))))∧fr' 107 = .bool ((decide (x178.Term=x150.Term))&&(decide (x150.Voted≠(-1))))∧fr' 1=lst cU8 v_1∧fr' 5 = .ref [v5,v9,
       v13] 0∧fr' 7 = .ref [v41,v45,v49] 0∧fr' 12 = .ref [.int .i64 x150.Term,.int .i64 x150.Voted,.bool x150.Stands,.bool x150.Leads,v162,
       v166] 0∧fr' 13 = .ref [.int .i64 x178.Term,.int .i64 x178.Voted,.bool x178.Stands,.bool x178.Leads,v190,
       v194] 0∧fr' 80=v5∧fr' 81 = .int .i64 (List.length v2.1.Servers:Int)∧fr' 82 = .int .i64 (i126:Int)∧fr' 97 = .bool (decide (x178.Term<x150.Term)))
       (fun Q209 hN210=>?_) ?_
     ·simp only [List.take_succ_cons,List.take_zero]
      simp only [qc (g:=103),B0,reduceIte,reduceEqDiff]
      refine qv (t:=(decide (x178.Term=x150.Term))) (fun hg211=>?_) (fun hg211=>?_)
      ·simp only [hg211,qc (g:=103),zd,qq,qb,Nat.reduceAdd,Nat.zero_add,Nat.add_zero,qr,ql,B0,reduceIte,reduceEqDiff]
       refine qg (v := .int .i64 x150.Voted) rfl ?_
       simp only [hg211,qc (g:=103),zd,qu,qb,qa7,hg208,qc (g:=97),qm,qp,zh,qa,qk,B0,
         reduceIte,reduceEqDiff]
       exact hN210 _ _ ⟨(Sep.m9 (Sep.m9 (Sep.m9 (Sep.m6 (Sep.m9 (Sep.m9 (Sep.m5 (Sep.m5 (Sep.m2 (Sep.m2 hS205)))))))))),by rw [wh hg211]; simp only [B0,reduceIte,
         reduceEqDiff],f143,f144,f145,rfl,rfl,f146,f149,f148,by simp only [hg208,B0,reduceIte,reduceEqDiff]⟩
      ·simp only [hg211,qc (g:=103),ji,hg208,qc (g:=97),qm,qp,qb,zg,qa,qk,B0,reduceIte,
        reduceEqDiff]
       exact hN210 _ _ ⟨(Sep.m9 (Sep.m9 (Sep.m9 (Sep.m6 (Sep.m9 (Sep.m9 (Sep.m5 (Sep.m5 (Sep.m2 (Sep.m2 hS205)))))))))),by rw [wj hg211]; simp only [B0,reduceIte,
         reduceEqDiff],f143,f144,f145,rfl,rfl,f146,f149,f148,by simp only [hg208,B0,reduceIte,reduceEqDiff]⟩
     rintro fr212 h223 ⟨hS224,f213,f214,f215,f216,f217,f218,f219,f220,f221,f222⟩
     simp only [List.drop_succ_cons,List.drop_zero]
     simp only [f222,hg208,qc (g:=97),qm,f213,qd,B0,reduceIte,reduceEqDiff]
     refine zw 6 (fun fr' h'=>Sep h' (geL h.length) (c155++(c10++(c14++(c183++(c46++(c50++(c163++(c167++(c191++(c195 ++
       ([])))))))))))∧fr' 114 = .bool (((decide (x178.Term=x150.Term))&&(decide (x150.Voted≠(-1))))&&(decide
       (x178.Voted≠x150.Voted)))∧fr' 1=lst cU8 v_1∧fr' 5 = .ref [v5,v9,v13] 0∧fr' 7 = .ref [v41,v45,v49] 0∧fr' 12 = .ref [.int .i64 x150.Term,
       .int .i64 x150.Voted,.bool x150.Stands,.bool x150.Leads,v162,v166] 0∧fr' 13 = .ref [.int .i64 x178.Term,.int .i64 x178.Voted,.bool x178.Stands,
       .bool x178.Leads,v190,v194] 0∧fr' 80=v5∧fr' 81 = .int .i64 (List.length v2.1.Servers:Int)∧fr' 82 = .int .i64 (i126:Int)∧fr' 97 = .bool (decide
       (x178.Term<x150.Term))) (fun Q225 hN226=>?_) ?_
     ·simp only [List.take_succ_cons,List.take_zero]
      simp only [qc (g:=108),B0,reduceIte,reduceEqDiff]
      refine qv (t:=((decide (x178.Term=x150.Term))&&(decide (x150.Voted≠(-1))))) (fun hg227=>?_) (fun hg227=>?_)
      ·simp only [hg227,qc (g:=108),zd,f218,qq,qb,Nat.reduceAdd,Nat.zero_add,Nat.add_zero,qr,ql,B0,reduceIte,reduceEqDiff]
       refine qg (v := .int .i64 x178.Voted) rfl ?_
       simp only [hg227,qc (g:=108),zd,f217,qq,qb,Nat.reduceAdd,Nat.zero_add,Nat.add_zero,qr,ql,B0,reduceIte,reduceEqDiff]
       refine qg (v := .int .i64 x150.Voted) rfl ?_
       simp only [hg227,qc (g:=108),zd,qu,qb,qa7,f222,hg208,qc (g:=97),qm,qp,zh,qa,qk,
         B0,reduceIte,reduceEqDiff]
       exact hN226 _ _ ⟨(Sep.m9 (Sep.m9 (Sep.m9 (Sep.m9 (Sep.m9 (Sep.m9 (Sep.m9 (Sep.m9 (Sep.m9 (Sep.m9 hS224)))))))))),by rw [wh hg227]; simp only [B0,reduceIte,
         reduceEqDiff],f214,f215,f216,f217,f218,f219,f220,f221,by simp only [f222,hg208,B0,reduceIte,reduceEqDiff]⟩
      ·simp only [hg227,qc (g:=108),ji,f222,hg208,qc (g:=97),qm,qp,qb,zg,qa,qk,B0,reduceIte,
        reduceEqDiff]
       exact hN226 _ _ ⟨(Sep.m9 (Sep.m9 (Sep.m9 (Sep.m9 (Sep.m9 (Sep.m9 (Sep.m9 (Sep.m9 (Sep.m9 (Sep.m9 hS224)))))))))),by rw [wj hg227]; simp only [B0,reduceIte,
         reduceEqDiff],f214,f215,f216,f217,f218,f219,f220,f221,by simp only [f222,hg208,B0,reduceIte,reduceEqDiff]⟩
     rintro fr228 h239 ⟨hS240,f229,f230,f231,f232,f233,f234,f235,f236,f237,f238⟩
     simp only [List.drop_succ_cons,List.drop_zero]
     simp only [f238,hg208,qp,qb,zg,f229,qa,qk,B0,reduceIte,reduceEqDiff]
     exact hN207 _ _ ⟨(Sep.m9 (Sep.m9 (Sep.m9 (Sep.m9 (Sep.m9 (Sep.m9 (Sep.m9 (Sep.m9 (Sep.m9 (Sep.m9 hS240)))))))))),by rw [orF hg208]; simp only [B0,reduceIte,
       reduceEqDiff],f230,f231,f232,f233,f234,f235,f236,f237⟩
   rintro fr241 h251 ⟨hS252,f242,f243,f244,f245,f246,f247,f248,f249,f250⟩
   simp only [List.drop_succ_cons,List.drop_zero]
   simp only [f242,qd,B0,reduceIte,reduceEqDiff]
   obtain ⟨v256,hx257,hF258⟩:=qh hF180
   refine zw 7 (fun fr' h'=>Sep h' (geL h.length) (c155++(c10++(c14++(c183++(c46++(c50++(c163++(c167++(c191++(c195 ++
     ([])))))))))))∧fr' 123 = .bool v256∧fr' 1=lst cU8 v_1∧fr' 5 = .ref [v5,v9,v13] 0∧fr' 7 = .ref [v41,v45,
     v49] 0∧fr' 80=v5∧fr' 81 = .int .i64 (List.length v2.1.Servers:Int)∧fr' 82 = .int .i64 (i126:Int)) (fun Q253 hN254=>?_) ?_
   ·simp only [List.take_succ_cons,List.take_zero]
    simp only [qc (g:=116),B0,reduceIte,reduceEqDiff]
    refine qv (t:=((decide (x178.Term<x150.Term))||(((decide (x178.Term=x150.Term))&&(decide (x150.Voted≠(-1))))&&(decide (x178.Voted≠x150.Voted)))))
      (fun hg255=>?_) (fun hg255=>?_)
    ·rw [iteT hg255] at hx257
     simp only [hg255,qc (g:=116),zn,qp,qb,zh,qa,qk,B0,reduceIte,reduceEqDiff]
     have e259:=qi hx257
     exact hN254 _ _ ⟨(Sep.m9 (Sep.m9 (Sep.m9 (Sep.m9 (Sep.m9 (Sep.m9 (Sep.m9 (Sep.m9 (Sep.m9 (Sep.m9 hS252)))))))))),by rw [←e259]; simp only [B0,reduceIte,
       reduceEqDiff],f243,f244,f245,f248,f249,f250⟩
    ·rw [iteF hg255] at hx257
     simp only [hg255,qc (g:=116),qm,f247,qq,qb,Nat.reduceAdd,Nat.zero_add,Nat.add_zero,qr,ql,B0,reduceIte,reduceEqDiff]
     refine qg (v:=v194) rfl ?_
     simp only [hg255,qc (g:=116),qm,f246,qq,qb,Nat.reduceAdd,Nat.zero_add,Nat.add_zero,qr,ql,B0,reduceIte,reduceEqDiff]
     refine qg (v:=v166) rfl ?_
     obtain ⟨v260,hx261,hF262⟩:=qh hx257
     simp only [hg255,qc (g:=116),qm,qs,B0,reduceIte,reduceEqDiff]
     refine z9 rfl (qj (SlF.snap hv196 (Sep.m9 hS252) rfl (fun _=>rfl) (fun _=>rfl)) (qj (SlF.snap hv168 (Sep.m7 hS252) rfl (fun _=>rfl)
       (fun _=>rfl)) qw)) (qdh (fun b hb=>decide_eq_true hb) x178.Log x150.Log v260 hx261) ?_
     simp only [hg255,qc (g:=116),qm,jf,qb,j5,qp,zg,qa,qk,B0,reduceIte,reduceEqDiff]
     have e263:=qi hF262
     exact hN254 _ _ ⟨(Sep.m9 (Sep.m9 (Sep.m9 (Sep.m9 (Sep.m9 (Sep.m9 (Sep.m9 (Sep.m9 (Sep.m9 (Sep.m9 hS252)))))))))),by rw [←e263]; simp only [B0,reduceIte,
       reduceEqDiff],f243,f244,f245,f248,f249,f250⟩
   rintro fr264 h272 ⟨hS273,f265,f266,f267,f268,f269,f270,f271⟩
   simp only [List.drop_succ_cons,List.drop_zero]
   simp only [qa,f265,zb,B0,reduceIte,reduceEqDiff]
   refine zc (t:=v256) (fun hc274=>?_) (fun hc274=>?_)
   ·rw [iteT hc274] at hF258
    simp only [qf,qe,qd,qa,qz,B0,reduceIte,reduceEqDiff]
    have e275:=qi hF258
    subst e275
    have ho276:=hr133 _ rfl
    have hk277:=hk131
    rw [ho276] at hk277
    dsimp only [jnO] at hk277
    apply hR137
    have e278:=qi hk277
    subst e278
    have hk108':=hk108
    dsimp only [jnO] at hk108'
    apply hR111
    have he:=qi hk108'
    subst he
    simp only [zm,B0,reduceIte,reduceEqDiff]
    exact rfl
   rw [iteF hc274] at hF258
   simp only [zf,qk,B0,reduceIte,reduceEqDiff]
   obtain ⟨c279,hv280,hS281⟩:=SlG.cls0 (c:=c155) (os:=c163++(c167)) hv158 rfl hx151 jq (Server.RI (x:=x150) hv164 hv168) (Sep.ni2 (c1:=c163) (c2:=c167)
     (Sep.m2 (Sep.m7 (Sep.m7 hS273))))
   have hv282:=SlG.toN hv280
   obtain ⟨c283,hv284,hS285⟩:=SlG.cls0 (c:=c183) (os:=c191++(c195)) hv186 rfl hx179 jq (Server.RI (x:=x178) hv192 hv196) (Sep.ni2 (c1:=c191) (c2:=c195)
     (Sep.m5 (Sep.m7 (Sep.m7 hS281))))
   have hv286:=SlG.toN hv284
   have e287:=qi hF258
   exact hN135 _ _ _ e287.symm ⟨c279,c283,f266,f267,f268,f269,hv282,hv286,(Sep.m5 (Sep.m5 (Sep.m5 (Sep.m2 (Sep.m5 (Sep.m5 hS285))))))⟩ (f271) (f270)
  rintro ⟨s289,s292⟩ fr295 h296 rfl ⟨c290,c293,f298,f299,f300,f301,hv291,hv294,hS297⟩
  dsimp only [jnO] at hk131
  dsimp only at *
  unfold qcu at hk131
  simp only [q50,qf,qe,f300,ql,B0,reduceIte,reduceEqDiff]
  refine qg (v := .agg [v41,v45,v49]) rfl ?_
  obtain ⟨v302,hx303,hF304⟩:=qh hk131
  simp only [qs,B0,reduceIte,reduceEqDiff]
  refine z9 rfl (qj (jj (qj (SlN.snap hv294 _ (Sep.m3 hS297) rfl Server.RO) (qj (SlF.snap hv47 (Sep.m4 hS297) rfl (fun _=>rfl) (fun _=>rfl)) (qj
    (SlF.snap hv51 (Sep.m5 hS297) rfl (fun _=>rfl) (fun _=>rfl)) qw)))) qw) (qdy (fun b hb=>decide_eq_true hb)
    (Election.mk s292 v38.1.Post v38.1.Led) v302 hx303) ?_
  simp only [jf,qb,j5,qd,B0,reduceIte,reduceEqDiff]
  refine zw 8 (fun fr' h'=>Sep h' (geL h.length) ([])∧fr' 136 = .bool ((!v302)||(decide ((List.length v38.1.Led:Int) <
    (List.length v2.1.Led:Int))))∧fr' 1=lst cU8 v_1) (fun Q305 hN306=>?_) ?_
  ·simp only [List.take_succ_cons,List.take_zero]
   simp only [qc (g:=128),B0,reduceIte,reduceEqDiff]
   refine qv (t:=(!v302)) (fun hg307=>?_) (fun hg307=>?_)
   ·simp only [hg307,qc (g:=128),zn,qp,qb,zh,qa,qk,B0,reduceIte,reduceEqDiff]
    exact hN306 _ _ ⟨(Sep.dc ((Sep.dc ((Sep.dc ((Sep.dc ((Sep.dc ((Sep.dc (hS297)))))))))))),by rw [orT hg307]; simp only [B0,reduceIte,reduceEqDiff],f298⟩
   ·simp only [hg307,qc (g:=128),qm,f300,qq,qb,Nat.reduceAdd,Nat.zero_add,Nat.add_zero,qr,ql,B0,reduceIte,reduceEqDiff]
    refine qg (v:=v49) rfl ?_
    simp only [hg307,qc (g:=128),qm,zo,qb,SlF.plen hv51,f299,qq,Nat.reduceAdd,Nat.zero_add,Nat.add_zero,qr,ql,B0,
      reduceIte,reduceEqDiff]
    refine qg (v:=v13) rfl ?_
    simp only [hg307,qc (g:=128),qm,zo,qb,SlF.plen hv15,qu,qaq,qp,zg,qa,qk,B0,reduceIte,reduceEqDiff]
    exact hN306 _ _ ⟨(Sep.dc ((Sep.dc ((Sep.dc ((Sep.dc ((Sep.dc ((Sep.dc (hS297)))))))))))),by rw [orF hg307]; simp only [B0,reduceIte,reduceEqDiff],f298⟩
  rintro fr308 h311 ⟨hS312,f309,f310⟩
  simp only [List.drop_succ_cons,List.drop_zero]
  simp only [qa,f309,zb,B0,reduceIte,reduceEqDiff]
  refine zc (t:=((!v302)||(decide ((List.length v38.1.Led:Int)<(List.length v2.1.Led:Int))))) (fun hc313=>?_) (fun hc313=>?_)
  ·rw [iteT hc313] at hF304
   simp only [qf,qe,qd,qa,qz,B0,reduceIte,reduceEqDiff]
   have e314:=qi hF304
   subst e314
   have hk108':=hk108
   dsimp only [jnO] at hk108'
   apply hR111
   have he:=qi hk108'
   subst he
   simp only [zm,B0,reduceIte,reduceEqDiff]
   exact rfl
  rw [iteF hc313] at hF304
  simp only [zf,qk,B0,reduceIte,reduceEqDiff]
  have e315:=qi hF304
  exact hN110 _ _ ⟨_,e315.symm,f310,hS312⟩
 ·rw [iteF hc113] at hX107
  simp only [zf,qk,B0,reduceIte,reduceEqDiff]
  have e317:=qi hX107
  exact hN110 _ _ ⟨_,e317.symm,zf1,(Sep.dc ((Sep.dc ((Sep.dc ((Sep.dc ((Sep.dc ((Sep.dc ((Sep.dc ((Sep.dc ((Sep.dc (hS93))))))))))))))))))⟩
 rintro fr318 h319 ⟨_,rfl,f321,hS320⟩
 dsimp only [jnO] at hk108
 unfold qdj at hk108
 obtain ⟨v322,hx323,hF324⟩:=qh hk108
 simp only [q1u,qf,qe,f321,qd,qs,B0,reduceIte,reduceEqDiff]
 refine uk rfl hS320 (qj zj qw) (qh0 (fun b hb=>decide_eq_true hb) k v_1 v322 hx323) ?_
 rintro _ h337 ⟨v325,c326,v329,c330,v333,c334,rfl,hv327,hv331,hv335,hS338⟩
 refine ⟨_,u4 (qn (uj (qn (SlN.free1 hv327) (qn (SlF.free1 hv331) (qn (SlF.free1 hv335) zl)))) (qn rfl zl)),hS338,
   (jl (SlN.pf hv327 Server.RO) (jl (SlF.pf hv331 (fun _=>rfl)) (jl (SlF.pf hv335 (fun _=>rfl)) wv))),fun h339 hS340=>?_⟩
 have hS341:Sep h339 (geL h.length) (c326++(c330++(c334++([])))):=by simpa only [List.append_assoc,List.nil_append] using hS340
 simp only [qd,ya,qb,yg,ye,jc,B0,reduceIte,reduceEqDiff]
 refine zr hS341 (fun b342 h343 hS344=>?_)
 simp only [zi,B0,reduceIte,reduceEqDiff]
 refine qy (us:=[v325,v329,v333]) rfl (cs':=[v325,v329,
   v333]) hS344 hW rfl (qn (SlN.one hv327) (qn (SlF.one hv331) (qn (SlF.one hv335) zl))) (nle rfl) rfl (fun h346 hS347=>?_)
 simp only [qd,qa,B0,reduceIte,reduceEqDiff]
 refine zu hS347 hW (by simp only [B0,reduceIte,reduceEqDiff]) (fun h348 hS349=>?_)
 simp only [zq,q4j,qf,qe,ql,B0,reduceIte,reduceEqDiff]
 refine qg (v := .agg [v325,v329,v333]) rfl ?_
 obtain ⟨v350,hx351,hF352⟩:=qh hF324
 simp only [qd,qs,B0,reduceIte,reduceEqDiff]
 refine z9 rfl (qj (jj (qj (SlN.snap hv327 _ hS349 rfl Server.RO) (qj (SlF.snap hv331 (Sep.m1 hS349) rfl (fun _=>rfl) (fun _=>rfl)) (qj (SlF.snap hv335
   (Sep.m2 hS349) rfl (fun _=>rfl) (fun _=>rfl)) qw)))) (qj q8 qw)) (qjm (fun b hb=>decide_eq_true hb) v322.1 v322.2 v350 hx351) ?_
 simp only [qd,ya,qb,yg,ye,qa,q03,qf,qe,ql,B0,reduceIte,reduceEqDiff]
 refine qg (v := .agg [v325,v329,v333]) rfl ?_
 obtain ⟨v353,hx354,hF355⟩:=qh hF352
 simp only [qd,qs,B0,reduceIte,reduceEqDiff]
 refine z9 rfl (qj (jj (qj (SlN.snap hv327 _ hS349 rfl Server.RO) (qj (SlF.snap hv331 (Sep.m1 hS349) rfl (fun _=>rfl) (fun _=>rfl)) (qj (SlF.snap hv335
   (Sep.m2 hS349) rfl (fun _=>rfl) (fun _=>rfl)) qw)))) (qj q8 qw)) (qj0 (fun b hb=>decide_eq_true hb) v322.1 v322.2 v353 hx354) ?_
 obtain ⟨v356,hx357,hF358⟩:=qh hF355
 simp only [qd,ya,qb,yg,ye,qa,q3g,qf,qe,f321,qs,B0,reduceIte,reduceEqDiff]
 refine uk rfl hS349 (qj zj qw) (qh5 (fun b hb=>decide_eq_true hb) k v_1 v356 hx357) ?_
 rintro _ h371 ⟨v359,c360,v363,c364,v367,c368,rfl,hv361,hv365,hv369,hS372⟩
 refine ⟨_,u4 (qn (uj (qn (SlN.free1 hv361) (qn (SlF.free1 hv365) (qn (SlF.free1 hv369) zl)))) (qn rfl zl)),hS372,
   (jl (SlN.pf hv361 Server.RO) (jl (SlF.pf hv365 (fun _=>rfl)) (jl (SlF.pf hv369 (fun _=>rfl)) wv))),fun h373 hS374=>?_⟩
 have hS375:Sep h373 (geL h.length) (c360++(c364++(c368++(c326++(c330++(c334++([]))))))):=by simpa only [List.append_assoc,List.nil_append] using hS374
 simp only [qd,ya,qb,yg,ye,jc,B0,reduceIte,reduceEqDiff]
 refine zr hS375 (fun b376 h377 hS378=>?_)
 simp only [zi,B0,reduceIte,reduceEqDiff]
 refine qy (us:=[v359,v363,v367]) rfl (cs':=[v359,v363,
   v367]) hS378 hW rfl (qn (SlN.one hv361) (qn (SlF.one hv365) (qn (SlF.one hv369) zl))) (nle rfl) rfl (fun h380 hS381=>?_)
 simp only [qd,qa,B0,reduceIte,reduceEqDiff]
 refine zu hS381 hW (by simp only [B0,reduceIte,reduceEqDiff]) (fun h382 hS383=>?_)
 simp only [zq,q3m,qf,qe,ql,B0,reduceIte,reduceEqDiff]
 refine qg (v := .agg [v359,v363,v367]) rfl ?_
 obtain ⟨v384,hx385,hF386⟩:=qh hF358
 simp only [qd,qs,B0,reduceIte,reduceEqDiff]
 refine z9 rfl (qj (jj (qj (SlN.snap hv361 _ hS383 rfl Server.RO) (qj (SlF.snap hv365 (Sep.m1 hS383) rfl (fun _=>rfl) (fun _=>rfl)) (qj (SlF.snap hv369
   (Sep.m2 hS383) rfl (fun _=>rfl) (fun _=>rfl)) qw)))) (qj q8 qw)) (qj7 (fun b hb=>decide_eq_true hb) v356.1 v356.2 v384 hx385) ?_
 simp only [qd,ya,qb,yg,ye,qa,q3v,qf,qe,ql,B0,reduceIte,reduceEqDiff]
 refine qg (v := .agg [v359,v363,v367]) rfl ?_
 obtain ⟨v387,hx388,hF389⟩:=qh hF386
 simp only [qd,qs,B0,reduceIte,reduceEqDiff]
 refine z9 rfl (qj (jj (qj (SlN.snap hv361 _ hS383 rfl Server.RO) (qj (SlF.snap hv365 (Sep.m1 hS383) rfl (fun _=>rfl) (fun _=>rfl)) (qj (SlF.snap hv369
   (Sep.m2 hS383) rfl (fun _=>rfl) (fun _=>rfl)) qw)))) (qj q8 qw)) (qkf (fun b hb=>decide_eq_true hb) v356.1 v356.2 v387 hx388) ?_
 obtain ⟨v390,hx391,hF392⟩:=qh hF389
 simp only [qd,ya,qb,yg,ye,qa,qw2,qf,qe,f321,qs,B0,reduceIte,reduceEqDiff]
 refine uk rfl hS383 (qj zj qw) (qh4 (fun b hb=>decide_eq_true hb) k v_1 v390 hx391) ?_
 rintro _ h401 ⟨v393,c394,v397,c398,rfl,hv395,hv399,hS402⟩
 refine ⟨_,u4 (qn (qg9 (SlF.free1 hv395)) (qn (qg9 (SlF.free1 hv399)) zl)),hS402,
   (jl (SlF.pf hv395 (fun _=>rfl)) (jl (SlF.pf hv399 (fun _=>rfl)) wv)),fun h403 hS404=>?_⟩
 have hS405:Sep h403 (geL h.length) (c394++(c398++(c360++(c364++(c368++(c326++(c330++(c334++([]))))))))):=by simpa only [List.append_assoc,
   List.nil_append] using hS404
 obtain ⟨v406,hx407,hF408⟩:=qh hF392
 simp only [qd,ya,qb,yg,ye,qa,q0w,qf,qe,qs,B0,reduceIte,reduceEqDiff]
 refine z9 rfl (qj (SlF.snap hv395 hS405 rfl (fun _=>rfl) (fun _=>rfl)) (qj (SlF.snap hv399 (Sep.m1 hS405) rfl (fun _=>rfl) (fun _=>rfl)) qw))
   (qgg (fun b hb=>decide_eq_true hb) v390.1 v390.2 v406 hx407) ?_
 obtain ⟨v409,hx410,hF411⟩:=qh hF408
 simp only [qd,ya,qb,yg,ye,qa,qxc,qf,qe,qs,B0,reduceIte,reduceEqDiff]
 refine z9 rfl (qj (SlF.snap hv395 hS405 rfl (fun _=>rfl) (fun _=>rfl)) (qj (SlF.snap hv399 (Sep.m1 hS405) rfl (fun _=>rfl) (fun _=>rfl)) qw))
   (qjy (fun b hb=>decide_eq_true hb) v390.1 v390.2 v409 hx410) ?_
 obtain ⟨v412,hx413,hF414⟩:=qh hF411
 simp only [qd,ya,qb,yg,ye,qa,q1i,qf,qe,f321,qs,B0,reduceIte,reduceEqDiff]
 refine uk rfl hS405 (qj zj qw) (qgu (fun b hb=>decide_eq_true hb) k v_1 v412 hx413) ?_
 rintro v415 h419 ⟨_,c416,rfl,hv417,hS420⟩
 refine ⟨_,q6f (SlN.free1 hv417),hS420,(jl (SlN.pf hv417 RL44O) wv),fun h421 hS422=>?_⟩
 have hS423:Sep h421 (geL h.length) (c416++(c394++(c398++(c360++(c364++(c368++(c326++(c330++(c334++([])))))))))):=by simpa only [List.append_assoc,
   List.nil_append] using hS422
 obtain ⟨v424,hx425,hF426⟩:=qh hF414
 simp only [qd,qa,qwx,qf,qe,qs,B0,reduceIte,reduceEqDiff]
 refine z9 rfl (qj (SlN.snap hv417 _ hS423 rfl RL44O) qw) (qii (fun b hb=>decide_eq_true hb) v412 v424 hx425) ?_
 simp only [qd,ya,qb,yg,ye,jc,B0,reduceIte,reduceEqDiff]
 refine zr hS423 (fun b427 h428 hS429=>?_)
 simp only [zi,B0,reduceIte,reduceEqDiff]
 refine qy (us:=[lst Server.cells v424.1.Servers,lst Letter.cells v424.1.Post,lst Vote.cells v424.1.Led]) rfl (cs':=[lst Server.cells v424.1.Servers,
   lst Letter.cells v424.1.Post,lst Vote.cells v424.1.Led]) hS429 hW rfl rfl (nle rfl) rfl (fun h431 hS432=>?_)
 simp only [qd,qa,B0,reduceIte,reduceEqDiff]
 refine zu hS432 hW (by simp only [B0,reduceIte,reduceEqDiff]) (fun h433 hS434=>?_)
 obtain ⟨v435,hx436,hF437⟩:=qh hF426
 simp only [zq,q4a,qf,qe,qd,qs,B0,reduceIte,reduceEqDiff]
 refine uk rfl hS434 (qj (SlN.snap hv417 _ hS434 rfl RL44O) qw) (qa1 (fun b hb=>decide_eq_true hb) v412 v435 hx436) ?_
 rintro _ h450 ⟨v438,c439,v442,c443,v446,c447,rfl,hv440,hv444,hv448,hS451⟩
 refine ⟨_,u4 (qn (uj (qn (SlN.free1 hv440) (qn (SlF.free1 hv444) (qn (SlF.free1 hv448) zl)))) (qn rfl zl)),hS451,
   (jl (SlN.pf hv440 Server.RO) (jl (SlF.pf hv444 (fun _=>rfl)) (jl (SlF.pf hv448 (fun _=>rfl)) wv))),fun h452 hS453=>?_⟩
 have hS454:Sep h452 (geL h.length) (c439++(c443++(c447++(c416++(c394++(c398++(c360++(c364++(c368++(c326++(c330++(c334 ++
   ([]))))))))))))):=by simpa only [List.append_assoc,List.nil_append] using hS453
 simp only [qd,ya,qb,yg,ye,jc,B0,reduceIte,reduceEqDiff]
 refine zr hS454 (fun b455 h456 hS457=>?_)
 simp only [zi,B0,reduceIte,reduceEqDiff]
 refine qy (us:=[v438,v442,v446]) rfl (cs':=[v438,v442,
   v446]) hS457 hW rfl (qn (SlN.one hv440) (qn (SlF.one hv444) (qn (SlF.one hv448) zl))) (nle rfl) rfl (fun h459 hS460=>?_)
 simp only [qd,qa,B0,reduceIte,reduceEqDiff]
 refine zu hS460 hW (by simp only [B0,reduceIte,reduceEqDiff]) (fun h461 hS462=>?_)
 simp only [zq,q27,qf,qe,qd,qct,qb,qb0,B0,reduceIte,reduceEqDiff]
 refine zw 4 (fun fr' h'=>Sep h' (geL h.length) (c394++(c398++(c439++(c443++(c447++([]))))))∧fr' 207 = .bool ((!(v350.2 == v353.2))||(decide
   (v350.1≠v353.1)))∧fr' 22 = .bool v384.1∧fr' 23 = .bool v384.2∧fr' 24 = .bool v387.1∧fr' 25 = .bool v387.2∧fr' 26=v393∧fr' 27=v397∧fr' 28 = .bool v406.1∧fr' 29 = .bool v406.2∧fr' 30 = .bool v409.1∧fr' 31 = .bool v409.2∧fr' 33 = .ref [lst Server.cells v424.1.Servers,
   lst Letter.cells v424.1.Post,lst Vote.cells v424.1.Led] 0∧fr' 34 = .bool v424.2∧fr' 35 = .ref [v438,v442,v446] 0∧fr' 36 = .bool v435.2) (fun Q463 hN464=>?_) ?_
 ·simp only [List.take_succ_cons,List.take_zero]
  simp only [qc (g:=203),B0,reduceIte,reduceEqDiff]
  refine qv (t:=(!(v350.2 == v353.2))) (fun hg465=>?_) (fun hg465=>?_)
  ·simp only [hg465,qc (g:=203),zn,qp,qb,zh,qa,qk,B0,reduceIte,reduceEqDiff]
   exact hN464 _ _ ⟨(Sep.m4 (Sep.m4 (Sep.m2 (Sep.m2 (Sep.m2 (Sep.dc (Sep.m5 (Sep.dc (Sep.m5 (Sep.dc (Sep.m5 (Sep.dc (Sep.m5 (Sep.dc (Sep.m5 (Sep.dc (Sep.m5 (Sep.dc
     (Sep.m3 hS462))))))))))))))))))),by rw [orT hg465]; simp only [B0,reduceIte,reduceEqDiff],rfl,rfl,rfl,rfl,rfl,rfl,rfl,rfl,rfl,rfl,rfl,rfl,rfl,rfl⟩
  ·simp only [hg465,qc (g:=203),qm,qd,qu,qb,qa7,qp,zg,qa,qk,B0,reduceIte,reduceEqDiff]
   exact hN464 _ _ ⟨(Sep.m4 (Sep.m4 (Sep.m2 (Sep.m2 (Sep.m2 (Sep.dc (Sep.m5 (Sep.dc (Sep.m5 (Sep.dc (Sep.m5 (Sep.dc (Sep.m5 (Sep.dc (Sep.m5 (Sep.dc (Sep.m5 (Sep.dc
     (Sep.m3 hS462))))))))))))))))))),by rw [orF hg465]; simp only [B0,reduceIte,reduceEqDiff],rfl,rfl,rfl,rfl,rfl,rfl,rfl,rfl,rfl,rfl,rfl,rfl,rfl,rfl⟩
 rintro fr466 h482 ⟨hS483,f467,f468,f469,f470,f471,f472,f473,f474,f475,f476,f477,f478,f479,f480,f481⟩
 simp only [List.drop_succ_cons,List.drop_zero]
 simp only [f467,qd,B0,reduceIte,reduceEqDiff]
 refine zw 4 (fun fr' h'=>Sep h' (geL h.length) (c394++(c398++(c439++(c443++(c447++([]))))))∧fr' 212 = .bool (((!(v350.2 == v353.2))||(decide
   (v350.1≠v353.1)))||(!(v384.2 == v387.2)))∧fr' 22 = .bool v384.1∧fr' 24 = .bool v387.1∧fr' 26=v393∧fr' 27=v397∧fr' 28 = .bool v406.1∧fr' 29 = .bool v406.2∧fr' 30 = .bool v409.1∧fr' 31 = .bool v409.2∧fr' 33 = .ref [lst Server.cells v424.1.Servers,
   lst Letter.cells v424.1.Post,lst Vote.cells v424.1.Led] 0∧fr' 34 = .bool v424.2∧fr' 35 = .ref [v438,v442,v446] 0∧fr' 36 = .bool v435.2) (fun Q484 hN485=>?_) ?_
 ·simp only [List.take_succ_cons,List.take_zero]
  simp only [qc (g:=208),B0,reduceIte,reduceEqDiff]
  refine qv (t:=((!(v350.2 == v353.2))||(decide (v350.1≠v353.1)))) (fun hg486=>?_) (fun hg486=>?_)
  ·simp only [hg486,qc (g:=208),zn,qp,qb,zh,qa,qk,B0,reduceIte,reduceEqDiff]
   exact hN485 _ _ ⟨(Sep.m4 (Sep.m4 (Sep.m4 (Sep.m4 (Sep.m4 hS483))))),by rw [orT hg486]; simp only [B0,reduceIte,reduceEqDiff],f468,f470,f472,f473,f474,f475,f476,
     f477,f478,f479,f480,f481⟩
  ·simp only [hg486,qc (g:=208),qm,f469,qd,f471,qct,qb,qb0,qp,zg,qa,qk,B0,reduceIte,reduceEqDiff]
   exact hN485 _ _ ⟨(Sep.m4 (Sep.m4 (Sep.m4 (Sep.m4 (Sep.m4 hS483))))),by rw [orF hg486]; simp only [B0,reduceIte,reduceEqDiff],f468,f470,f472,f473,f474,f475,f476,
     f477,f478,f479,f480,f481⟩
 rintro fr487 h501 ⟨hS502,f488,f489,f490,f491,f492,f493,f494,f495,f496,f497,f498,f499,f500⟩
 simp only [List.drop_succ_cons,List.drop_zero]
 simp only [f488,qd,B0,reduceIte,reduceEqDiff]
 refine zw 4 (fun fr' h'=>Sep h' (geL h.length) (c394++(c398++(c439++(c443++(c447++([]))))))∧fr' 217 = .bool ((((!(v350.2 == v353.2))||(decide
   (v350.1≠v353.1)))||(!(v384.2 == v387.2))) ||
   (!(v384.1 == v387.1)))∧fr' 26=v393∧fr' 27=v397∧fr' 28 = .bool v406.1∧fr' 29 = .bool v406.2∧fr' 30 = .bool v409.1∧fr' 31 = .bool v409.2∧fr' 33 = .ref [lst Server.cells v424.1.Servers,
   lst Letter.cells v424.1.Post,lst Vote.cells v424.1.Led] 0∧fr' 34 = .bool v424.2∧fr' 35 = .ref [v438,v442,v446] 0∧fr' 36 = .bool v435.2) (fun Q503 hN504=>?_) ?_
 ·simp only [List.take_succ_cons,List.take_zero]
  simp only [qc (g:=213),B0,reduceIte,reduceEqDiff]
  refine qv (t:=(((!(v350.2 == v353.2))||(decide (v350.1≠v353.1)))||(!(v384.2 == v387.2)))) (fun hg505=>?_) (fun hg505=>?_)
  ·simp only [hg505,qc (g:=213),zn,qp,qb,zh,qa,qk,B0,reduceIte,reduceEqDiff]
   exact hN504 _ _ ⟨(Sep.m4 (Sep.m4 (Sep.m4 (Sep.m4 (Sep.m4 hS502))))),by rw [orT hg505]; simp only [B0,reduceIte,reduceEqDiff],f491,f492,f493,f494,f495,f496,f497,
     f498,f499,f500⟩
  ·simp only [hg505,qc (g:=213),qm,f489,qd,f490,qct,qb,qb0,qp,zg,qa,qk,B0,reduceIte,reduceEqDiff]
   exact hN504 _ _ ⟨(Sep.m4 (Sep.m4 (Sep.m4 (Sep.m4 (Sep.m4 hS502))))),by rw [orF hg505]; simp only [B0,reduceIte,reduceEqDiff],f491,f492,f493,f494,f495,f496,f497,
     f498,f499,f500⟩
 rintro fr506 h518 ⟨hS519,f507,f508,f509,f510,f511,f512,f513,f514,f515,f516,f517⟩
 simp only [List.drop_succ_cons,List.drop_zero]
 simp only [f507,qd,B0,reduceIte,reduceEqDiff]
 refine zw 4 (fun fr' h'=>Sep h' (geL h.length) (c394++(c398++(c439++(c443++(c447++([]))))))∧fr' 222 = .bool (((((!(v350.2 == v353.2))||(decide
   (v350.1≠v353.1)))||(!(v384.2 == v387.2)))||(!(v384.1 == v387.1))) ||
   (!(v406.2 == v409.2)))∧fr' 26=v393∧fr' 27=v397∧fr' 28 = .bool v406.1∧fr' 29 = .bool v406.2∧fr' 30 = .bool v409.1∧fr' 33 = .ref [lst Server.cells v424.1.Servers,
   lst Letter.cells v424.1.Post,lst Vote.cells v424.1.Led] 0∧fr' 34 = .bool v424.2∧fr' 35 = .ref [v438,v442,v446] 0∧fr' 36 = .bool v435.2) (fun Q520 hN521=>?_) ?_
 ·simp only [List.take_succ_cons,List.take_zero]
  simp only [qc (g:=218),B0,reduceIte,reduceEqDiff]
  refine qv (t:=((((!(v350.2 == v353.2))||(decide (v350.1≠v353.1)))||(!(v384.2 == v387.2)))||(!(v384.1 == v387.1)))) (fun hg522=>?_) (fun hg522=>?_)
  ·simp only [hg522,qc (g:=218),zn,qp,qb,zh,qa,qk,B0,reduceIte,reduceEqDiff]
   exact hN521 _ _ ⟨(Sep.m4 (Sep.m4 (Sep.m4 (Sep.m4 (Sep.m4 hS519))))),by rw [orT hg522]; simp only [B0,reduceIte,reduceEqDiff],f508,f509,f510,f511,f512,f514,f515,
     f516,f517⟩
  ·simp only [hg522,qc (g:=218),qm,f511,qd,f513,qct,qb,qb0,qp,zg,qa,qk,B0,reduceIte,reduceEqDiff]
   exact hN521 _ _ ⟨(Sep.m4 (Sep.m4 (Sep.m4 (Sep.m4 (Sep.m4 hS519))))),by rw [orF hg522]; simp only [B0,reduceIte,reduceEqDiff],f508,f509,f510,f511,f512,f514,f515,
     f516,f517⟩
 rintro fr523 h534 ⟨hS535,f524,f525,f526,f527,f528,f529,f530,f531,f532,f533⟩
 simp only [List.drop_succ_cons,List.drop_zero]
 simp only [f524,qd,B0,reduceIte,reduceEqDiff]
 refine zw 4 (fun fr' h'=>Sep h' (geL h.length) (c394++(c398++(c439++(c443++(c447++([]))))))∧fr' 227 = .bool ((((((!(v350.2 == v353.2))||(decide
   (v350.1≠v353.1)))||(!(v384.2 == v387.2)))||(!(v384.1 == v387.1)))||(!(v406.2 == v409.2))) ||
   (!(v406.1 == v409.1)))∧fr' 26=v393∧fr' 27=v397∧fr' 28 = .bool v406.1∧fr' 29 = .bool v406.2∧fr' 33 = .ref [lst Server.cells v424.1.Servers,
   lst Letter.cells v424.1.Post,lst Vote.cells v424.1.Led] 0∧fr' 34 = .bool v424.2∧fr' 35 = .ref [v438,v442,v446] 0∧fr' 36 = .bool v435.2) (fun Q536 hN537=>?_) ?_
 ·simp only [List.take_succ_cons,List.take_zero]
  simp only [qc (g:=223),B0,reduceIte,reduceEqDiff]
  refine qv (t:=(((((!(v350.2 == v353.2))||(decide (v350.1≠v353.1)))||(!(v384.2 == v387.2)))||(!(v384.1 == v387.1)))||(!(v406.2 == v409.2))))
    (fun hg538=>?_) (fun hg538=>?_)
  ·simp only [hg538,qc (g:=223),zn,qp,qb,zh,qa,qk,B0,reduceIte,reduceEqDiff]
   exact hN537 _ _ ⟨(Sep.m4 (Sep.m4 (Sep.m4 (Sep.m4 (Sep.m4 hS535))))),by rw [orT hg538]; simp only [B0,reduceIte,reduceEqDiff],f525,f526,f527,f528,f530,f531,f532,
     f533⟩
  ·simp only [hg538,qc (g:=223),qm,f527,qd,f529,qct,qb,qb0,qp,zg,qa,qk,B0,reduceIte,reduceEqDiff]
   exact hN537 _ _ ⟨(Sep.m4 (Sep.m4 (Sep.m4 (Sep.m4 (Sep.m4 hS535))))),by rw [orF hg538]; simp only [B0,reduceIte,reduceEqDiff],f525,f526,f527,f528,f530,f531,f532,
     f533⟩
 rintro fr539 h549 ⟨hS550,f540,f541,f542,f543,f544,f545,f546,f547,f548⟩
 simp only [List.drop_succ_cons,List.drop_zero]
 simp only [f540,qd,B0,reduceIte,reduceEqDiff]
 refine zw 4 (fun fr' h'=>Sep h' (geL h.length) (c394++(c398++(c439++(c443++(c447++([]))))))∧fr' 232 = .bool (((((((!(v350.2 == v353.2))||(decide
   (v350.1≠v353.1)))||(!(v384.2 == v387.2)))||(!(v384.1 == v387.1)))||(!(v406.2 == v409.2)))||(!(v406.1 == v409.1))) ||
   (!(v424.2 == v435.2)))∧fr' 26=v393∧fr' 27=v397∧fr' 28 = .bool v406.1∧fr' 29 = .bool v406.2∧fr' 33 = .ref [lst Server.cells v424.1.Servers,
   lst Letter.cells v424.1.Post,lst Vote.cells v424.1.Led] 0∧fr' 35 = .ref [v438,v442,v446] 0) (fun Q551 hN552=>?_) ?_
 ·simp only [List.take_succ_cons,List.take_zero]
  simp only [qc (g:=228),B0,reduceIte,reduceEqDiff]
  refine qv (t:=((((((!(v350.2 == v353.2))||(decide (v350.1≠v353.1)))||(!(v384.2 == v387.2)))||(!(v384.1 == v387.1)))||(!(v406.2 == v409.2))) ||
    (!(v406.1 == v409.1)))) (fun hg553=>?_) (fun hg553=>?_)
  ·simp only [hg553,qc (g:=228),zn,qp,qb,zh,qa,qk,B0,reduceIte,reduceEqDiff]
   exact hN552 _ _ ⟨(Sep.m4 (Sep.m4 (Sep.m4 (Sep.m4 (Sep.m4 hS550))))),by rw [orT hg553]; simp only [B0,reduceIte,reduceEqDiff],f541,f542,f543,f544,f545,f547⟩
  ·simp only [hg553,qc (g:=228),qm,f546,qd,f548,qct,qb,qb0,qp,zg,qa,qk,B0,reduceIte,reduceEqDiff]
   exact hN552 _ _ ⟨(Sep.m4 (Sep.m4 (Sep.m4 (Sep.m4 (Sep.m4 hS550))))),by rw [orF hg553]; simp only [B0,reduceIte,reduceEqDiff],f541,f542,f543,f544,f545,f547⟩
 rintro fr554 h562 ⟨hS563,f555,f556,f557,f558,f559,f560,f561⟩
 simp only [List.drop_succ_cons,List.drop_zero]
 simp only [f555,qd,B0,reduceIte,reduceEqDiff]
 obtain ⟨v567,hx568,hF569⟩:=qh hF437
 refine zw 5 (fun fr' h'=>Sep h' (geL h.length) (c394++(c398 ++
   ([])))∧fr' 238 = .bool v567∧fr' 26=v393∧fr' 27=v397∧fr' 28 = .bool v406.1∧fr' 29 = .bool v406.2) (fun Q564 hN565=>?_) ?_
 ·simp only [List.take_succ_cons,List.take_zero]
  simp only [qc (g:=233),B0,reduceIte,reduceEqDiff]
  refine qv (t:=(((((((!(v350.2 == v353.2))||(decide (v350.1≠v353.1)))||(!(v384.2 == v387.2)))||(!(v384.1 == v387.1)))||(!(v406.2 == v409.2))) ||
    (!(v406.1 == v409.1)))||(!(v424.2 == v435.2)))) (fun hg566=>?_) (fun hg566=>?_)
  ·rw [iteT hg566] at hx568
   simp only [hg566,qc (g:=233),zn,qp,qb,zh,qa,qk,B0,reduceIte,reduceEqDiff]
   have e570:=qi hx568
   exact hN565 _ _ ⟨(Sep.m1 (Sep.m1 (Sep.dc (Sep.m2 (Sep.dc (Sep.m2 (Sep.dc (Sep.m2 hS563)))))))),by rw [←e570]; simp only [B0,reduceIte,reduceEqDiff],f556,f557,f558,
     f559⟩
  ·rw [iteF hg566] at hx568
   simp only [hg566,qc (g:=233),qm,f560,ql,B0,reduceIte,reduceEqDiff]
   refine qg (v := .agg [lst Server.cells v424.1.Servers,lst Letter.cells v424.1.Post,lst Vote.cells v424.1.Led]) rfl ?_
   simp only [hg566,qc (g:=233),qm,f561,ql,B0,reduceIte,reduceEqDiff]
   refine qg (v := .agg [v438,v442,v446]) rfl ?_
   obtain ⟨v571,hx572,hF573⟩:=qh hx568
   simp only [hg566,qc (g:=233),qm,qs,B0,reduceIte,reduceEqDiff]
   refine z9 rfl (qj (jj (qj zj (qj zj (qj zj qw)))) (qj (jj (qj (SlN.snap hv440 _ (Sep.m2 hS563) rfl Server.RO) (qj
     (SlF.snap hv444 (Sep.m3 hS563) rfl (fun _=>rfl) (fun _=>rfl)) (qj (SlF.snap hv448 (Sep.m4 hS563) rfl (fun _=>rfl) (fun _=>rfl)) qw)))) qw))
     (qdb (fun b hb=>decide_eq_true hb) v424.1 v435.1 v571 hx572) ?_
   simp only [hg566,qc (g:=233),qm,jf,qb,j5,qp,zg,qa,qk,B0,reduceIte,reduceEqDiff]
   have e574:=qi hF573
   exact hN565 _ _ ⟨(Sep.m1 (Sep.m1 (Sep.dc (Sep.m2 (Sep.dc (Sep.m2 (Sep.dc (Sep.m2 hS563)))))))),by rw [←e574]; simp only [B0,reduceIte,reduceEqDiff],f556,f557,f558,
     f559⟩
 rintro fr575 h581 ⟨hS582,f576,f577,f578,f579,f580⟩
 simp only [List.drop_succ_cons,List.drop_zero]
 simp only [qa,f576,zb,B0,reduceIte,reduceEqDiff]
 refine zc (t:=v567) (fun hc583=>?_) (fun hc583=>?_)
 ·rw [iteT hc583] at hF569
  simp only [qf,qe,qd,qa,qz,B0,reduceIte,reduceEqDiff]
  have he:=qi hF569
  subst he
  simp only [zm,B0,reduceIte,reduceEqDiff]
  exact rfl
 rw [iteF hc583] at hF569
 simp only [zf,q33,qf,qe,f580,qd,qa,qy2,zb,B0,reduceIte,reduceEqDiff]
 refine zc (t:=v406.2) (fun hc584=>?_) (fun hc584=>?_)
 ·rw [iteT hc584] at hF569
  obtain ⟨v585,hx586,hF587⟩:=qh hF569
  simp only [q2z,qf,qe,f578,qd,f577,qs,B0,reduceIte,reduceEqDiff]
  refine z9 rfl (qj (SlF.snap hv399 (Sep.m1 hS582) rfl (fun _=>rfl) (fun _=>rfl)) (qj (SlF.snap hv395 hS582 rfl (fun _=>rfl) (fun _=>rfl)) qw))
    (qgg (fun b hb=>decide_eq_true hb) v390.2 v390.1 v585 hx586) ?_
  simp only [qd,ya,qb,yg,ye,qa,q6b,qf,qe,B0,reduceIte,reduceEqDiff]
  refine zw 5 (fun fr' h'=>Sep h' (geL h.length) ([])∧fr' 252 = .bool (v585.2&&(v406.1||v585.1))) (fun Q588 hN589=>?_) ?_
  ·simp only [List.take_succ_cons,List.take_zero]
   simp only [qc (g:=247),B0,reduceIte,reduceEqDiff]
   refine qv (t:=v585.2) (fun hg590=>?_) (fun hg590=>?_)
   ·simp only [hg590,qc (g:=247),zd,f579,qd,B0,reduceIte,reduceEqDiff]
    refine zw 2 (fun fr' h'=>Sep h' (geL h.length) ([])∧fr' 251 = .bool (v406.1||v585.1)∧fr' 247 = .bool v585.2) (fun Q591 hN592=>?_) ?_
    ·simp only [List.take_succ_cons,List.take_zero]
     simp only [qc (g:=249),B0,reduceIte,reduceEqDiff]
     refine qv (t:=v406.1) (fun hg593=>?_) (fun hg593=>?_)
     ·simp only [hg593,qc (g:=249),zn,hg590,qc (g:=247),zd,qp,qb,zh,qa,qk,B0,reduceIte,
       reduceEqDiff]
      exact hN592 _ _ ⟨(Sep.dc ((Sep.dc (hS582)))),by rw [orT hg593]; simp only [B0,reduceIte,reduceEqDiff],by simp only [hg590,B0,reduceIte,reduceEqDiff]⟩
     ·simp only [hg593,qc (g:=249),qm,qd,hg590,qc (g:=247),zd,qp,qb,zg,qa,qk,B0,
       reduceIte,reduceEqDiff]
      exact hN592 _ _ ⟨(Sep.dc ((Sep.dc (hS582)))),by rw [orF hg593]; simp only [B0,reduceIte,reduceEqDiff],by simp only [hg590,B0,reduceIte,reduceEqDiff]⟩
    rintro fr594 h597 ⟨hS598,f595,f596⟩
    simp only [List.drop_succ_cons,List.drop_zero]
    simp only [f596,hg590,qp,qb,zh,f595,qa,qk,B0,reduceIte,reduceEqDiff]
    exact hN589 _ _ ⟨hS598,by rw [wh hg590]; simp only [B0,reduceIte,reduceEqDiff]⟩
   ·simp only [hg590,qc (g:=247),ji,qc (g:=249),k7,qp,qb,zg,qa,qk,B0,reduceIte,reduceEqDiff]
    exact hN589 _ _ ⟨(Sep.dc ((Sep.dc (hS582)))),by rw [wj hg590]; simp only [B0,reduceIte,reduceEqDiff]⟩
  rintro fr599 h601 ⟨hS602,f600⟩
  simp only [List.drop_succ_cons,List.drop_zero]
  simp only [f600,qd,qa,qz,B0,reduceIte,reduceEqDiff]
  have he:=qi hF587
  subst he
  simp only [zm,B0,reduceIte,reduceEqDiff]
  exact rfl
 rw [iteF hc584] at hF569
 simp only [zf,qf,qe,qd,qa,qz,B0,reduceIte,reduceEqDiff]
 have he:=qi hF569
 subst he
 simp only [zm,B0,reduceIte,reduceEqDiff]
 exact rfl
end Go.Proofs.Ytpddolihbnfahaa.X
