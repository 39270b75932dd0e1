/- The functions' code comes to what the plain functions say (7). -/
import Derived.Test.YtanblnjomhgphaaXBH6
open Go.IntKind renaming wrap→r8
open List renaming drop_succ_cons→s6,drop_zero→t3,length→p9,take_succ_cons→s5,take_zero→t4
open Nat renaming add_zero→o9,reduceAdd→o7,reduceEqDiff→a8,zero_add→o8
open Go.Proofs.Ytanblnjomhgphaa.X.Sep renaming nil→a14
set_option linter.unusedVariables false
set_option linter.unusedSimpArgs false
set_option maxRecDepth 100000
set_option maxHeartbeats 1000000
namespace Go.Proofs.Ytanblnjomhgphaa.X
open Go
theorem qli {W:Nat→Bool}{h:Heap} (hW:∀ b,
  (geL h.length) b→W b=true) (d8:Raft) (a9:Raft) (r:Bool) (hF:qcm d8 a9=some r) : Ret E W 10 [.agg [lst qs d8.Peers,
  lst qu d8.Mail],.agg [lst qs a9.Peers,lst qu a9.Mail]] h (fun v h'=>cut h.length h' E.sz false 9 v=some (.bool r)):=by
 refine Ret.of (fn:=x10) rfl (Run.of ?_)
 unfold qcm at hF
 have zf0:zk [.agg [lst qs d8.Peers,lst qu d8.Mail],.agg [lst qs a9.Peers,lst qu a9.Mail]] 0 = .agg [lst qs d8.Peers,
   lst qu d8.Mail]:=rfl
 have zf1:zk [.agg [lst qs d8.Peers,lst qu d8.Mail],.agg [lst qs a9.Peers,lst qu a9.Mail]] 1 = .agg [lst qs a9.Peers,
   lst qu a9.Mail]:=rfl
 generalize zk [.agg [lst qs d8.Peers,lst qu d8.Mail],.agg [lst qs a9.Peers,lst qu a9.Mail]]=fr0 at zf0 zf1 ⊢
 have hS:Sep h (geL h.length) []:=a14 h
 simp only [x10,qf,qe,ym,zf0,B0,reduceIte,a8]
 refine ko (cs:=[lst qs d8.Peers,lst qu d8.Mail]) hS rfl rfl rfl (fun b1 h2 hS3=>?_)
 simp only [ym,zf1,B0,reduceIte,a8]
 refine ko (cs:=[lst qs a9.Peers,lst qu a9.Mail]) hS3 rfl rfl rfl (fun b5 h6 hS7=>?_)
 simp only [qg,qa,B0,reduceIte,a8]
 refine jc (Sep.m1 hS7) hW (by simp only [B0,reduceIte,a8]) (fun h9 hS10=>?_)
 refine jc hS10 hW (by simp only [B0,reduceIte,a8]) (fun h11 hS12=>?_)
 simp only [z5,qvj,qf,qe,qo,qb,o7,o8,o9,qn,ql,B0,reduceIte,a8]
 refine qd (v:=lst qs d8.Peers) rfl ?_
 simp only [zq,qb,z7,qo,o7,o8,o9,qn,ql,B0,reduceIte,a8]
 refine qd (v:=lst qs a9.Peers) rfl ?_
 simp only [zq,qb,z7,qx,wz,qg,B0,reduceIte,a8]
 refine jf 8 (fun fr' h'=>Sep h' (geL h.length) ([])∧fr' 26 = .bool ((decide ((p9 d8.Peers:Int)≠(p9 a9.Peers:Int)))||(decide
   ((p9 d8.Mail:Int)≠(p9 a9.Mail:Int))))∧fr' 2 = .ref [lst qs d8.Peers,
   lst qu d8.Mail] 0∧fr' 3 = .ref [lst qs a9.Peers,lst qu a9.Mail] 0) (fun Q13 hN14=>?_) ?_
 ·simp only [s5,t4]
  simp only [qc (g:=18),B0,reduceIte,a8]
  refine zf (t:=(decide ((p9 d8.Peers:Int)≠(p9 a9.Peers:Int)))) (fun hg15=>?_) (fun hg15=>?_)
  ·simp only [hg15,qc (g:=18),zx,qw,qb,zo,qa,qm,B0,reduceIte,a8]
   exact hN14 _ _ ⟨hS12,by rw [orT hg15]; simp only [B0,reduceIte,a8],rfl,rfl⟩
  ·simp only [hg15,qc (g:=18),qr,qo,qb,o7,o8,o9,qn,ql,B0,reduceIte,a8]
   refine qd (v:=lst qu d8.Mail) rfl ?_
   simp only [hg15,qc (g:=18),qr,zq,qb,z7,qo,o7,o8,o9,qn,ql,B0,reduceIte,
     a8]
   refine qd (v:=lst qu a9.Mail) rfl ?_
   simp only [hg15,qc (g:=18),qr,zq,qb,z7,qx,wz,qw,zn,qa,qm,B0,reduceIte,a8]
   exact hN14 _ _ ⟨hS12,by rw [orF hg15]; simp only [B0,reduceIte,a8],rfl,rfl⟩
 rintro fr16 h20 ⟨hS21,f17,f18,f19⟩
 simp only [s6,t3]
 simp only [qa,f17,q8,B0,reduceIte,a8]
 refine q9 (t:=((decide ((p9 d8.Peers:Int)≠(p9 a9.Peers:Int)))||(decide ((p9 d8.Mail:Int)≠(p9 a9.Mail:Int)))))
   (fun hc22=>?_) (fun hc22=>?_)
 ·rw [iteT hc22] at hF
  simp only [qf,qe,qg,qa,zc,B0,reduceIte,a8]
  have he:=qj hF
  subst he
  simp only [zr,B0,reduceIte,a8]
  exact rfl
 rw [iteF hc22] at hF
 simp only [zd,qxn,qf,qe,f18,qo,qb,o7,o8,o9,qn,ql,B0,reduceIte,a8]
 refine qd (v:=lst qs d8.Peers) rfl ?_
 simp only [zq,qb,z7,qg,qa,B0,reduceIte,a8]
 obtain ⟨oc25,hX27,hk28⟩:=kd hF
 simp only [q6y]
 refine qas (σ:=Unit) (fun i23 _=>qad d8 a9 i23 ) (fun s fr' h'=>fr' 2 = .ref [lst qs d8.Peers,
   lst qu d8.Mail] 0∧fr' 3 = .ref [lst qs a9.Peers,lst qu a9.Mail] 0∧Sep h' (geL h.length) ([])) hX27 ⟨f18,f19,hS21⟩ (by simp only [B0,
   reduceIte,a8]) (by simp only [B0,reduceIte,
   a8]) (fun _ _ _ h=>h) rfl rfl (fun _ _ _ _ h=>h) (fun _ _ _ _ h=>h) (fun _ _ _ _ h=>h) (by decide) ?_ ?_
 ·rintro i23 _ fr37 h38 hx42 ⟨f40,f41,hS39⟩ f43 f44 oc26 hF29 hr30 Q31 hN32 hB36 hK33 hR34 hE35
  unfold qad at hF29
  simp only [q7y,qf,qe,f43,qg,qa,q53,f40,qo,qb,o7,o8,o9,qn,ql,B0,reduceIte,
    a8]
  refine qd (v:=lst qs d8.Peers) rfl ?_
  obtain ⟨x45,hx46,hF47⟩:=qk hF29
  simp only [qg,jj,B0,reduceIte,a8]
  refine qd (v := .ref (qs x45) 0) (xg hx46 rfl) ?_
  simp only [ql,B0,reduceIte,a8]
  refine qd (v := .agg [.int .i64 x45.Term,.bool x45.Leads,lst qh x45.Log,.int .i64 x45.Commit,lst cI x45.Match]) rfl ?_
  simp only [ji,B0,reduceIte,a8]
  refine z6 hS39 (fun b48 h49 hS50=>?_)
  simp only [zh,B0,reduceIte,a8]
  refine qy (us:=[.int .i64 x45.Term,.bool x45.Leads,lst qh x45.Log,.int .i64 x45.Commit,lst cI x45.Match]) rfl (cs':=[.int .i64 x45.Term,
    .bool x45.Leads,lst qh x45.Log,.int .i64 x45.Commit,lst cI x45.Match]) hS50 hW rfl rfl (nle rfl) rfl (fun h52 hS53=>?_)
  simp only [qa,B0,reduceIte,a8]
  refine jc hS53 hW (by simp only [B0,reduceIte,a8]) (fun h54 hS55=>?_)
  simp only [z5,q5l,qf,qe,f41,qo,qb,o7,o8,o9,qn,ql,B0,reduceIte,a8]
  refine qd (v:=lst qs a9.Peers) rfl ?_
  obtain ⟨x56,hx57,hF58⟩:=qk hF47
  simp only [qg,jj,B0,reduceIte,a8]
  refine qd (v := .ref (qs x56) 0) (xg hx57 rfl) ?_
  simp only [ql,B0,reduceIte,a8]
  refine qd (v := .agg [.int .i64 x56.Term,.bool x56.Leads,lst qh x56.Log,.int .i64 x56.Commit,lst cI x56.Match]) rfl ?_
  simp only [ji,B0,reduceIte,a8]
  refine z6 hS55 (fun b59 h60 hS61=>?_)
  simp only [zh,B0,reduceIte,a8]
  refine qy (us:=[.int .i64 x56.Term,.bool x56.Leads,lst qh x56.Log,.int .i64 x56.Commit,lst cI x56.Match]) rfl (cs':=[.int .i64 x56.Term,
    .bool x56.Leads,lst qh x56.Log,.int .i64 x56.Commit,lst cI x56.Match]) hS61 hW rfl rfl (nle rfl) rfl (fun h63 hS64=>?_)
  simp only [qa,B0,reduceIte,a8]
  refine jc hS64 hW (by simp only [B0,reduceIte,a8]) (fun h65 hS66=>?_)
  simp only [z5,q83,qf,qe,qo,qb,o7,o8,o9,qn,ql,B0,reduceIte,a8]
  refine qd (v := .int .i64 x45.Term) rfl ?_
  simp only [qo,qb,o7,o8,o9,qn,ql,B0,reduceIte,a8]
  refine qd (v := .int .i64 x56.Term) rfl ?_
  simp only [qx,qb,wz,qg,B0,reduceIte,a8]
  refine jf 6 (fun fr' h'=>Sep h' (geL h.length) ([])∧fr' 54 = .bool ((decide (x45.Term≠x56.Term)) ||
    (!(x45.Leads == x56.Leads)))∧fr' 2 = .ref [lst qs d8.Peers,lst qu d8.Mail] 0∧fr' 3 = .ref [lst qs a9.Peers,
    lst qu a9.Mail] 0∧fr' 6 = .ref [.int .i64 x45.Term,.bool x45.Leads,lst qh x45.Log,.int .i64 x45.Commit,
    lst cI x45.Match] 0∧fr' 7 = .ref [.int .i64 x56.Term,.bool x56.Leads,lst qh x56.Log,.int .i64 x56.Commit,
    lst cI x56.Match] 0∧fr' 29 = .int .i64 (p9 d8.Peers:Int)∧fr' 30 = .int .i64 (i23:Int)) (fun Q67 hN68=>?_) ?_
  ·simp only [s5,t4]
   simp only [qc (g:=48),B0,reduceIte,a8]
   refine zf (t:=(decide (x45.Term≠x56.Term))) (fun hg69=>?_) (fun hg69=>?_)
   ·simp only [hg69,qc (g:=48),zx,qw,qb,zo,qa,qm,B0,reduceIte,a8]
    exact hN68 _ _ ⟨hS66,by rw [orT hg69]; simp only [B0,reduceIte,a8],f40,f41,rfl,rfl,f44,f43⟩
   ·simp only [hg69,qc (g:=48),qr,qo,qb,o7,o8,o9,qn,ql,B0,reduceIte,a8]
    refine qd (v := .bool x45.Leads) rfl ?_
    simp only [hg69,qc (g:=48),qr,qo,qb,o7,o8,o9,qn,ql,B0,reduceIte,a8]
    refine qd (v := .bool x56.Leads) rfl ?_
    simp only [hg69,qc (g:=48),qr,qkb,qb,qjw,qw,zn,qa,qm,B0,reduceIte,a8]
    exact hN68 _ _ ⟨hS66,by rw [orF hg69]; simp only [B0,reduceIte,a8],f40,f41,rfl,rfl,f44,f43⟩
  rintro fr70 h78 ⟨hS79,f71,f72,f73,f74,f75,f76,f77⟩
  simp only [s6,t3]
  simp only [f71,qg,B0,reduceIte,a8]
  refine jf 6 (fun fr' h'=>Sep h' (geL h.length) ([])∧fr' 61 = .bool (((decide (x45.Term≠x56.Term))||(!(x45.Leads == x56.Leads)))||(decide
    (x45.Commit≠x56.Commit)))∧fr' 2 = .ref [lst qs d8.Peers,lst qu d8.Mail] 0∧fr' 3 = .ref [lst qs a9.Peers,
    lst qu a9.Mail] 0∧fr' 6 = .ref [.int .i64 x45.Term,.bool x45.Leads,lst qh x45.Log,.int .i64 x45.Commit,
    lst cI x45.Match] 0∧fr' 7 = .ref [.int .i64 x56.Term,.bool x56.Leads,lst qh x56.Log,.int .i64 x56.Commit,
    lst cI x56.Match] 0∧fr' 29 = .int .i64 (p9 d8.Peers:Int)∧fr' 30 = .int .i64 (i23:Int)) (fun Q80 hN81=>?_) ?_
  ·simp only [s5,t4]
   simp only [qc (g:=55),B0,reduceIte,a8]
   refine zf (t:=((decide (x45.Term≠x56.Term))||(!(x45.Leads == x56.Leads)))) (fun hg82=>?_) (fun hg82=>?_)
   ·simp only [hg82,qc (g:=55),zx,qw,qb,zo,qa,qm,B0,reduceIte,a8]
    exact hN81 _ _ ⟨hS79,by rw [orT hg82]; simp only [B0,reduceIte,a8],f72,f73,f74,f75,f76,f77⟩
   ·simp only [hg82,qc (g:=55),qr,f74,qo,qb,o7,o8,o9,qn,ql,B0,reduceIte,a8]
    refine qd (v := .int .i64 x45.Commit) rfl ?_
    simp only [hg82,qc (g:=55),qr,f75,qo,qb,o7,o8,o9,qn,ql,B0,reduceIte,a8]
    refine qd (v := .int .i64 x56.Commit) rfl ?_
    simp only [hg82,qc (g:=55),qr,qx,qb,wz,qw,zn,qa,qm,B0,reduceIte,a8]
    exact hN81 _ _ ⟨hS79,by rw [orF hg82]; simp only [B0,reduceIte,a8],f72,f73,f74,f75,f76,f77⟩
  rintro fr83 h91 ⟨hS92,f84,f85,f86,f87,f88,f89,f90⟩
  simp only [s6,t3]
  simp only [f84,qg,B0,reduceIte,a8]
  obtain ⟨v96,hx97,hF98⟩:=qk hF58
  refine jf 7 (fun fr' h'=>Sep h' (geL h.length) ([])∧fr' 69 = .bool v96∧fr' 2 = .ref [lst qs d8.Peers,
    lst qu d8.Mail] 0∧fr' 3 = .ref [lst qs a9.Peers,lst qu a9.Mail] 0∧fr' 6 = .ref [.int .i64 x45.Term,.bool x45.Leads,
    lst qh x45.Log,.int .i64 x45.Commit,lst cI x45.Match] 0∧fr' 7 = .ref [.int .i64 x56.Term,.bool x56.Leads,lst qh x56.Log,.int .i64 x56.Commit,
    lst cI x56.Match] 0∧fr' 29 = .int .i64 (p9 d8.Peers:Int)∧fr' 30 = .int .i64 (i23:Int)) (fun Q93 hN94=>?_) ?_
  ·simp only [s5,t4]
   simp only [qc (g:=62),B0,reduceIte,a8]
   refine zf (t:=(((decide (x45.Term≠x56.Term))||(!(x45.Leads == x56.Leads)))||(decide (x45.Commit≠x56.Commit)))) (fun hg95=>?_) (fun hg95=>?_)
   ·rw [iteT hg95] at hx97
    simp only [hg95,qc (g:=62),zx,qw,qb,zo,qa,qm,B0,reduceIte,a8]
    have e99:=qj hx97
    exact hN94 _ _ ⟨hS92,by rw [←e99]; simp only [B0,reduceIte,a8],f85,f86,f87,f88,f89,f90⟩
   ·rw [iteF hg95] at hx97
    simp only [hg95,qc (g:=62),qr,f87,qo,qb,o7,o8,o9,qn,ql,B0,reduceIte,a8]
    refine qd (v:=lst qh x45.Log) rfl ?_
    simp only [hg95,qc (g:=62),qr,f88,qo,qb,o7,o8,o9,qn,ql,B0,reduceIte,a8]
    refine qd (v:=lst qh x56.Log) rfl ?_
    obtain ⟨v100,hx101,hF102⟩:=qk hx97
    simp only [hg95,qc (g:=62),qr,zi,B0,reduceIte,a8]
    refine jx rfl (qt jh (qt jh zm)) (qbc (fun b hb=>decide_eq_true hb) x45.Log x56.Log v100 hx101) ?_
    simp only [hg95,qc (g:=62),qr,jq,qb,kq,qw,zn,qa,qm,B0,reduceIte,a8]
    have e103:=qj hF102
    exact hN94 _ _ ⟨hS92,by rw [←e103]; simp only [B0,reduceIte,a8],f85,f86,f87,f88,f89,f90⟩
  rintro fr104 h112 ⟨hS113,f105,f106,f107,f108,f109,f110,f111⟩
  simp only [s6,t3]
  simp only [f105,qg,B0,reduceIte,a8]
  obtain ⟨v117,hx118,hF119⟩:=qk hF98
  refine jf 7 (fun fr' h'=>Sep h' (geL h.length) ([])∧fr' 77 = .bool v117∧fr' 2 = .ref [lst qs d8.Peers,
    lst qu d8.Mail] 0∧fr' 3 = .ref [lst qs a9.Peers,
    lst qu a9.Mail] 0∧fr' 29 = .int .i64 (p9 d8.Peers:Int)∧fr' 30 = .int .i64 (i23:Int)) (fun Q114 hN115=>?_) ?_
  ·simp only [s5,t4]
   simp only [qc (g:=70),B0,reduceIte,a8]
   refine zf (t:=v96) (fun hg116=>?_) (fun hg116=>?_)
   ·rw [iteT hg116] at hx118
    simp only [hg116,qc (g:=70),zx,qw,qb,zo,qa,qm,B0,reduceIte,a8]
    have e120:=qj hx118
    exact hN115 _ _ ⟨hS113,by rw [←e120]; simp only [B0,reduceIte,a8],f106,f107,f110,f111⟩
   ·rw [iteF hg116] at hx118
    simp only [hg116,qc (g:=70),qr,f108,qo,qb,o7,o8,o9,qn,ql,B0,reduceIte,a8]
    refine qd (v:=lst cI x45.Match) rfl ?_
    simp only [hg116,qc (g:=70),qr,f109,qo,qb,o7,o8,o9,qn,ql,B0,reduceIte,a8]
    refine qd (v:=lst cI x56.Match) rfl ?_
    obtain ⟨v121,hx122,hF123⟩:=qk hx118
    simp only [hg116,qc (g:=70),qr,zi,B0,reduceIte,a8]
    refine jx rfl (qt jh (qt jh zm)) (qlu (fun b hb=>decide_eq_true hb) x45.Match x56.Match v121 hx122) ?_
    simp only [hg116,qc (g:=70),qr,jq,qb,kq,qw,zn,qa,qm,B0,reduceIte,a8]
    have e124:=qj hF123
    exact hN115 _ _ ⟨hS113,by rw [←e124]; simp only [B0,reduceIte,a8],f106,f107,f110,f111⟩
  rintro fr125 h131 ⟨hS132,f126,f127,f128,f129,f130⟩
  simp only [s6,t3]
  simp only [qa,f126,q8,B0,reduceIte,a8]
  refine q9 (t:=v117) (fun hc133=>?_) (fun hc133=>?_)
  ·rw [iteT hc133] at hF119
   simp only [qf,qe,qg,qa,zc,B0,reduceIte,a8]
   have e134:=qj hF119
   subst e134
   have ho135:=hr30 _ rfl
   have hk136:=hk28
   rw [ho135] at hk136
   dsimp only [jnO] at hk136
   apply hR34
   have he:=qj hk136
   subst he
   simp only [zr,B0,reduceIte,a8]
   exact rfl
  rw [iteF hc133] at hF119
  simp only [zd,qm,B0,reduceIte,a8]
  have e137:=qj hF119
  exact hN32 _ _ _ e137.symm ⟨f127,f128,hS132⟩ (f130) (f129)
 rintro _ fr139 h140 rfl ⟨f142,f143,hS141⟩
 dsimp only [jnO] at hk28
 unfold qea at hk28
 simp only [qsp,qf,qe,f142,qo,qb,o7,o8,o9,qn,ql,B0,reduceIte,a8]
 refine qd (v:=lst qu d8.Mail) rfl ?_
 simp only [zq,qb,z7,qg,qa,B0,reduceIte,a8]
 obtain ⟨oc146,hX148,hk149⟩:=kd hk28
 simp only [qyv]
 refine qas (σ:=Unit) (fun i144 _=>u9 d8 a9 i144 ) (fun s fr' h'=>fr' 2 = .ref [lst qs d8.Peers,
   lst qu d8.Mail] 0∧fr' 3 = .ref [lst qs a9.Peers,lst qu a9.Mail] 0∧Sep h' (geL h.length) ([])) hX148 ⟨f142,f143,hS141⟩ (by simp only [B0,
   reduceIte,a8]) (by simp only [B0,reduceIte,
   a8]) (fun _ _ _ h=>h) rfl rfl (fun _ _ _ _ h=>h) (fun _ _ _ _ h=>h) (fun _ _ _ _ h=>h) (by decide) ?_ ?_
 ·rintro i144 _ fr158 h159 hx163 ⟨f161,f162,hS160⟩ f164 f165 oc147 hF150 hr151 Q152 hN153 hB157 hK154 hR155 hE156
  unfold u9 at hF150
  simp only [qy1,qf,qe,f164,qg,qa,q7q,f161,qo,qb,o7,o8,o9,qn,ql,B0,reduceIte,
    a8]
  refine qd (v:=lst qu d8.Mail) rfl ?_
  obtain ⟨x166,hx167,hF168⟩:=qk hF150
  simp only [qg,jj,B0,reduceIte,a8]
  refine qd (v := .ref (qu x166) 0) (xg hx167 rfl) ?_
  simp only [ql,B0,reduceIte,a8]
  refine qd (v := .agg [.bool x166.Reply,.int .i64 x166.From,.int .i64 x166.To,.int .i64 x166.Term,.int .i64 x166.Prev,.int .i64 x166.PTerm,
    lst qh x166.Entry,.int .i64 x166.Commit,.int .i64 x166.Match]) rfl ?_
  simp only [ji,B0,reduceIte,a8]
  refine z6 hS160 (fun b169 h170 hS171=>?_)
  simp only [zh,B0,reduceIte,a8]
  refine qy (us:=[.bool x166.Reply,.int .i64 x166.From,.int .i64 x166.To,.int .i64 x166.Term,.int .i64 x166.Prev,.int .i64 x166.PTerm,lst qh x166.Entry,
    .int .i64 x166.Commit,.int .i64 x166.Match]) rfl (cs':=[.bool x166.Reply,.int .i64 x166.From,.int .i64 x166.To,.int .i64 x166.Term,.int .i64 x166.Prev,
    .int .i64 x166.PTerm,lst qh x166.Entry,.int .i64 x166.Commit,.int .i64 x166.Match]) hS171 hW rfl rfl (nle rfl) rfl (fun h173 hS174=>?_)
  simp only [qa,B0,reduceIte,a8]
  refine jc hS174 hW (by simp only [B0,reduceIte,a8]) (fun h175 hS176=>?_)
  simp only [z5,q92,qf,qe,f162,qo,qb,o7,o8,o9,qn,ql,B0,reduceIte,a8]
  refine qd (v:=lst qu a9.Mail) rfl ?_
  obtain ⟨x177,hx178,hF179⟩:=qk hF168
  simp only [qg,jj,B0,reduceIte,a8]
  refine qd (v := .ref (qu x177) 0) (xg hx178 rfl) ?_
  simp only [ql,B0,reduceIte,a8]
  refine qd (v := .agg [.bool x177.Reply,.int .i64 x177.From,.int .i64 x177.To,.int .i64 x177.Term,.int .i64 x177.Prev,.int .i64 x177.PTerm,
    lst qh x177.Entry,.int .i64 x177.Commit,.int .i64 x177.Match]) rfl ?_
  simp only [ji,B0,reduceIte,a8]
  refine z6 hS176 (fun b180 h181 hS182=>?_)
  simp only [zh,B0,reduceIte,a8]
  refine qy (us:=[.bool x177.Reply,.int .i64 x177.From,.int .i64 x177.To,.int .i64 x177.Term,.int .i64 x177.Prev,.int .i64 x177.PTerm,lst qh x177.Entry,
    .int .i64 x177.Commit,.int .i64 x177.Match]) rfl (cs':=[.bool x177.Reply,.int .i64 x177.From,.int .i64 x177.To,.int .i64 x177.Term,.int .i64 x177.Prev,
    .int .i64 x177.PTerm,lst qh x177.Entry,.int .i64 x177.Commit,.int .i64 x177.Match]) hS182 hW rfl rfl (nle rfl) rfl (fun h184 hS185=>?_)
  simp only [qa,B0,reduceIte,a8]
  refine jc hS185 hW (by simp only [B0,reduceIte,a8]) (fun h186 hS187=>?_)
  simp only [z5,q68,qf,qe,qo,qb,o7,o8,o9,qn,ql,B0,reduceIte,a8]
  refine qd (v := .bool x166.Reply) rfl ?_
  simp only [qo,qb,o7,o8,o9,qn,ql,B0,reduceIte,a8]
  refine qd (v := .bool x177.Reply) rfl ?_
  simp only [qkb,qb,qjw,qg,B0,reduceIte,a8]
  refine jf 6 (fun fr' h'=>Sep h' (geL h.length) ([])∧fr' 106 = .bool ((!(x166.Reply == x177.Reply))||(decide
    (x166.From≠x177.From)))∧fr' 2 = .ref [lst qs d8.Peers,lst qu d8.Mail] 0∧fr' 3 = .ref [lst qs a9.Peers,
    lst qu a9.Mail] 0∧fr' 9 = .ref [.bool x166.Reply,.int .i64 x166.From,.int .i64 x166.To,.int .i64 x166.Term,.int .i64 x166.Prev,.int .i64 x166.PTerm,
    lst qh x166.Entry,.int .i64 x166.Commit,.int .i64 x166.Match] 0∧fr' 10 = .ref [.bool x177.Reply,.int .i64 x177.From,.int .i64 x177.To,.int .i64 x177.Term,
    .int .i64 x177.Prev,.int .i64 x177.PTerm,lst qh x177.Entry,.int .i64 x177.Commit,
    .int .i64 x177.Match] 0∧fr' 81 = .int .i64 (p9 d8.Mail:Int)∧fr' 82 = .int .i64 (i144:Int)) (fun Q188 hN189=>?_) ?_
  ·simp only [s5,t4]
   simp only [qc (g:=100),B0,reduceIte,a8]
   refine zf (t:=(!(x166.Reply == x177.Reply))) (fun hg190=>?_) (fun hg190=>?_)
   ·simp only [hg190,qc (g:=100),zx,qw,qb,zo,qa,qm,B0,reduceIte,a8]
    exact hN189 _ _ ⟨hS187,by rw [orT hg190]; simp only [B0,reduceIte,a8],f161,f162,rfl,rfl,f165,f164⟩
   ·simp only [hg190,qc (g:=100),qr,qo,qb,o7,o8,o9,qn,ql,B0,reduceIte,a8]
    refine qd (v := .int .i64 x166.From) rfl ?_
    simp only [hg190,qc (g:=100),qr,qo,qb,o7,o8,o9,qn,ql,B0,reduceIte,a8]
    refine qd (v := .int .i64 x177.From) rfl ?_
    simp only [hg190,qc (g:=100),qr,qx,qb,wz,qw,zn,qa,qm,B0,reduceIte,a8]
    exact hN189 _ _ ⟨hS187,by rw [orF hg190]; simp only [B0,reduceIte,a8],f161,f162,rfl,rfl,f165,f164⟩
  rintro fr191 h199 ⟨hS200,f192,f193,f194,f195,f196,f197,f198⟩
  simp only [s6,t3]
  simp only [f192,qg,B0,reduceIte,a8]
  refine jf 6 (fun fr' h'=>Sep h' (geL h.length) ([])∧fr' 113 = .bool (((!(x166.Reply == x177.Reply))||(decide (x166.From≠x177.From)))||(decide
    (x166.To≠x177.To)))∧fr' 2 = .ref [lst qs d8.Peers,lst qu d8.Mail] 0∧fr' 3 = .ref [lst qs a9.Peers,
    lst qu a9.Mail] 0∧fr' 9 = .ref [.bool x166.Reply,.int .i64 x166.From,.int .i64 x166.To,.int .i64 x166.Term,.int .i64 x166.Prev,.int .i64 x166.PTerm,
    lst qh x166.Entry,.int .i64 x166.Commit,.int .i64 x166.Match] 0∧fr' 10 = .ref [.bool x177.Reply,.int .i64 x177.From,.int .i64 x177.To,.int .i64 x177.Term,
    .int .i64 x177.Prev,.int .i64 x177.PTerm,lst qh x177.Entry,.int .i64 x177.Commit,
    .int .i64 x177.Match] 0∧fr' 81 = .int .i64 (p9 d8.Mail:Int)∧fr' 82 = .int .i64 (i144:Int)) (fun Q201 hN202=>?_) ?_
  ·simp only [s5,t4]
   simp only [qc (g:=107),B0,reduceIte,a8]
   refine zf (t:=((!(x166.Reply == x177.Reply))||(decide (x166.From≠x177.From)))) (fun hg203=>?_) (fun hg203=>?_)
   ·simp only [hg203,qc (g:=107),zx,qw,qb,zo,qa,qm,B0,reduceIte,a8]
    exact hN202 _ _ ⟨hS200,by rw [orT hg203]; simp only [B0,reduceIte,a8],f193,f194,f195,f196,f197,f198⟩
   ·simp only [hg203,qc (g:=107),qr,f195,qo,qb,o7,o8,o9,qn,ql,B0,reduceIte,a8]
    refine qd (v := .int .i64 x166.To) rfl ?_
    simp only [hg203,qc (g:=107),qr,f196,qo,qb,o7,o8,o9,qn,ql,B0,reduceIte,a8]
    refine qd (v := .int .i64 x177.To) rfl ?_
    simp only [hg203,qc (g:=107),qr,qx,qb,wz,qw,zn,qa,qm,B0,reduceIte,a8]
    exact hN202 _ _ ⟨hS200,by rw [orF hg203]; simp only [B0,reduceIte,a8],f193,f194,f195,f196,f197,f198⟩
  rintro fr204 h212 ⟨hS213,f205,f206,f207,f208,f209,f210,f211⟩
  simp only [s6,t3]
  simp only [f205,qg,B0,reduceIte,a8]
  refine jf 6 (fun fr' h'=>Sep h' (geL h.length) ([])∧fr' 120 = .bool ((((!(x166.Reply == x177.Reply))||(decide (x166.From≠x177.From)))||(decide
    (x166.To≠x177.To)))||(decide (x166.Term≠x177.Term)))∧fr' 2 = .ref [lst qs d8.Peers,lst qu d8.Mail] 0∧fr' 3 = .ref [lst qs a9.Peers,
    lst qu a9.Mail] 0∧fr' 9 = .ref [.bool x166.Reply,.int .i64 x166.From,.int .i64 x166.To,.int .i64 x166.Term,.int .i64 x166.Prev,.int .i64 x166.PTerm,
    lst qh x166.Entry,.int .i64 x166.Commit,.int .i64 x166.Match] 0∧fr' 10 = .ref [.bool x177.Reply,.int .i64 x177.From,.int .i64 x177.To,.int .i64 x177.Term,
    .int .i64 x177.Prev,.int .i64 x177.PTerm,lst qh x177.Entry,.int .i64 x177.Commit,
    .int .i64 x177.Match] 0∧fr' 81 = .int .i64 (p9 d8.Mail:Int)∧fr' 82 = .int .i64 (i144:Int)) (fun Q214 hN215=>?_) ?_
  ·simp only [s5,t4]
   simp only [qc (g:=114),B0,reduceIte,a8]
   refine zf (t:=(((!(x166.Reply == x177.Reply))||(decide (x166.From≠x177.From)))||(decide (x166.To≠x177.To)))) (fun hg216=>?_) (fun hg216=>?_)
   ·simp only [hg216,qc (g:=114),zx,qw,qb,zo,qa,qm,B0,reduceIte,a8]
    exact hN215 _ _ ⟨hS213,by rw [orT hg216]; simp only [B0,reduceIte,a8],f206,f207,f208,f209,f210,f211⟩
   ·simp only [hg216,qc (g:=114),qr,f208,qo,qb,o7,o8,o9,qn,ql,B0,reduceIte,a8]
    refine qd (v := .int .i64 x166.Term) rfl ?_
    simp only [hg216,qc (g:=114),qr,f209,qo,qb,o7,o8,o9,qn,ql,B0,reduceIte,a8]
    refine qd (v := .int .i64 x177.Term) rfl ?_
    simp only [hg216,qc (g:=114),qr,qx,qb,wz,qw,zn,qa,qm,B0,reduceIte,a8]
    exact hN215 _ _ ⟨hS213,by rw [orF hg216]; simp only [B0,reduceIte,a8],f206,f207,f208,f209,f210,f211⟩
  rintro fr217 h225 ⟨hS226,f218,f219,f220,f221,f222,f223,f224⟩
  simp only [s6,t3]
  simp only [f218,qg,B0,reduceIte,a8]
  refine jf 6 (fun fr' h'=>Sep h' (geL h.length) ([])∧fr' 127 = .bool (((((!(x166.Reply == x177.Reply))||(decide (x166.From≠x177.From)))||(decide
    (x166.To≠x177.To)))||(decide (x166.Term≠x177.Term)))||(decide (x166.Prev≠x177.Prev)))∧fr' 2 = .ref [lst qs d8.Peers,
    lst qu d8.Mail] 0∧fr' 3 = .ref [lst qs a9.Peers,lst qu a9.Mail] 0∧fr' 9 = .ref [.bool x166.Reply,.int .i64 x166.From,.int .i64 x166.To,
    .int .i64 x166.Term,.int .i64 x166.Prev,.int .i64 x166.PTerm,lst qh x166.Entry,.int .i64 x166.Commit,
    .int .i64 x166.Match] 0∧fr' 10 = .ref [.bool x177.Reply,.int .i64 x177.From,.int .i64 x177.To,.int .i64 x177.Term,.int .i64 x177.Prev,.int .i64 x177.PTerm,
    lst qh x177.Entry,.int .i64 x177.Commit,
    .int .i64 x177.Match] 0∧fr' 81 = .int .i64 (p9 d8.Mail:Int)∧fr' 82 = .int .i64 (i144:Int)) (fun Q227 hN228=>?_) ?_
  ·simp only [s5,t4]
   simp only [qc (g:=121),B0,reduceIte,a8]
   refine zf (t:=((((!(x166.Reply == x177.Reply))||(decide (x166.From≠x177.From)))||(decide (x166.To≠x177.To)))||(decide (x166.Term≠x177.Term))))
     (fun hg229=>?_) (fun hg229=>?_)
   ·simp only [hg229,qc (g:=121),zx,qw,qb,zo,qa,qm,B0,reduceIte,a8]
    exact hN228 _ _ ⟨hS226,by rw [orT hg229]; simp only [B0,reduceIte,a8],f219,f220,f221,f222,f223,f224⟩
   ·simp only [hg229,qc (g:=121),qr,f221,qo,qb,o7,o8,o9,qn,ql,B0,reduceIte,a8]
    refine qd (v := .int .i64 x166.Prev) rfl ?_
    simp only [hg229,qc (g:=121),qr,f222,qo,qb,o7,o8,o9,qn,ql,B0,reduceIte,a8]
    refine qd (v := .int .i64 x177.Prev) rfl ?_
    simp only [hg229,qc (g:=121),qr,qx,qb,wz,qw,zn,qa,qm,B0,reduceIte,a8]
    exact hN228 _ _ ⟨hS226,by rw [orF hg229]; simp only [B0,reduceIte,a8],f219,f220,f221,f222,f223,f224⟩
  rintro fr230 h238 ⟨hS239,f231,f232,f233,f234,f235,f236,f237⟩
  simp only [s6,t3]
  simp only [f231,qg,B0,reduceIte,a8]
  refine jf 6 (fun fr' h'=>Sep h' (geL h.length) ([])∧fr' 134 = .bool ((((((!(x166.Reply == x177.Reply))||(decide (x166.From≠x177.From)))||(decide
    (x166.To≠x177.To)))||(decide (x166.Term≠x177.Term)))||(decide (x166.Prev≠x177.Prev)))||(decide
    (x166.PTerm≠x177.PTerm)))∧fr' 2 = .ref [lst qs d8.Peers,lst qu d8.Mail] 0∧fr' 3 = .ref [lst qs a9.Peers,
    lst qu a9.Mail] 0∧fr' 9 = .ref [.bool x166.Reply,.int .i64 x166.From,.int .i64 x166.To,.int .i64 x166.Term,.int .i64 x166.Prev,.int .i64 x166.PTerm,
    lst qh x166.Entry,.int .i64 x166.Commit,.int .i64 x166.Match] 0∧fr' 10 = .ref [.bool x177.Reply,.int .i64 x177.From,.int .i64 x177.To,.int .i64 x177.Term,
    .int .i64 x177.Prev,.int .i64 x177.PTerm,lst qh x177.Entry,.int .i64 x177.Commit,
    .int .i64 x177.Match] 0∧fr' 81 = .int .i64 (p9 d8.Mail:Int)∧fr' 82 = .int .i64 (i144:Int)) (fun Q240 hN241=>?_) ?_
  ·simp only [s5,t4]
   simp only [qc (g:=128),B0,reduceIte,a8]
   refine zf (t:=(((((!(x166.Reply == x177.Reply))||(decide (x166.From≠x177.From)))||(decide (x166.To≠x177.To)))||(decide (x166.Term≠x177.Term))) ||
     (decide (x166.Prev≠x177.Prev)))) (fun hg242=>?_) (fun hg242=>?_)
   ·simp only [hg242,qc (g:=128),zx,qw,qb,zo,qa,qm,B0,reduceIte,a8]
    exact hN241 _ _ ⟨hS239,by rw [orT hg242]; simp only [B0,reduceIte,a8],f232,f233,f234,f235,f236,f237⟩
   ·simp only [hg242,qc (g:=128),qr,f234,qo,qb,o7,o8,o9,qn,ql,B0,reduceIte,a8]
    refine qd (v := .int .i64 x166.PTerm) rfl ?_
    simp only [hg242,qc (g:=128),qr,f235,qo,qb,o7,o8,o9,qn,ql,B0,reduceIte,a8]
    refine qd (v := .int .i64 x177.PTerm) rfl ?_
    simp only [hg242,qc (g:=128),qr,qx,qb,wz,qw,zn,qa,qm,B0,reduceIte,a8]
    exact hN241 _ _ ⟨hS239,by rw [orF hg242]; simp only [B0,reduceIte,a8],f232,f233,f234,f235,f236,f237⟩
  rintro fr243 h251 ⟨hS252,f244,f245,f246,f247,f248,f249,f250⟩
  simp only [s6,t3]
  simp only [f244,qg,B0,reduceIte,a8]
  refine jf 6 (fun fr' h'=>Sep h' (geL h.length) ([])∧fr' 141 = .bool (((((((!(x166.Reply == x177.Reply))||(decide (x166.From≠x177.From)))||(decide
    (x166.To≠x177.To)))||(decide (x166.Term≠x177.Term)))||(decide (x166.Prev≠x177.Prev)))||(decide (x166.PTerm≠x177.PTerm)))||(decide
    (x166.Commit≠x177.Commit)))∧fr' 2 = .ref [lst qs d8.Peers,lst qu d8.Mail] 0∧fr' 3 = .ref [lst qs a9.Peers,
    lst qu a9.Mail] 0∧fr' 9 = .ref [.bool x166.Reply,.int .i64 x166.From,.int .i64 x166.To,.int .i64 x166.Term,.int .i64 x166.Prev,.int .i64 x166.PTerm,
    lst qh x166.Entry,.int .i64 x166.Commit,.int .i64 x166.Match] 0∧fr' 10 = .ref [.bool x177.Reply,.int .i64 x177.From,.int .i64 x177.To,.int .i64 x177.Term,
    .int .i64 x177.Prev,.int .i64 x177.PTerm,lst qh x177.Entry,.int .i64 x177.Commit,
    .int .i64 x177.Match] 0∧fr' 81 = .int .i64 (p9 d8.Mail:Int)∧fr' 82 = .int .i64 (i144:Int)) (fun Q253 hN254=>?_) ?_
  ·simp only [s5,t4]
   simp only [qc (g:=135),B0,reduceIte,a8]
   refine zf (t:=((((((!(x166.Reply == x177.Reply))||(decide (x166.From≠x177.From)))||(decide (x166.To≠x177.To)))||(decide (x166.Term≠x177.Term))) ||
     (decide (x166.Prev≠x177.Prev)))||(decide (x166.PTerm≠x177.PTerm)))) (fun hg255=>?_) (fun hg255=>?_)
   ·simp only [hg255,qc (g:=135),zx,qw,qb,zo,qa,qm,B0,reduceIte,a8]
    exact hN254 _ _ ⟨hS252,by rw [orT hg255]; simp only [B0,reduceIte,a8],f245,f246,f247,f248,f249,f250⟩
   ·simp only [hg255,qc (g:=135),qr,f247,qo,qb,o7,o8,o9,qn,ql,B0,reduceIte,a8]
    refine qd (v := .int .i64 x166.Commit) rfl ?_
    simp only [hg255,qc (g:=135),qr,f248,qo,qb,o7,o8,o9,qn,ql,B0,reduceIte,a8]
    refine qd (v := .int .i64 x177.Commit) rfl ?_
    simp only [hg255,qc (g:=135),qr,qx,qb,wz,qw,zn,qa,qm,B0,reduceIte,a8]
    exact hN254 _ _ ⟨hS252,by rw [orF hg255]; simp only [B0,reduceIte,a8],f245,f246,f247,f248,f249,f250⟩
  rintro fr256 h264 ⟨hS265,f257,f258,f259,f260,f261,f262,f263⟩
  simp only [s6,t3]
  simp only [f257,qg,B0,reduceIte,a8]
  refine jf 6 (fun fr' h'=>Sep h' (geL h.length) ([])∧fr' 148 = .bool ((((((((!(x166.Reply == x177.Reply))||(decide (x166.From≠x177.From)))||(decide
    (x166.To≠x177.To)))||(decide (x166.Term≠x177.Term)))||(decide (x166.Prev≠x177.Prev)))||(decide (x166.PTerm≠x177.PTerm)))||(decide
    (x166.Commit≠x177.Commit)))||(decide (x166.Match≠x177.Match)))∧fr' 2 = .ref [lst qs d8.Peers,
    lst qu d8.Mail] 0∧fr' 3 = .ref [lst qs a9.Peers,lst qu a9.Mail] 0∧fr' 9 = .ref [.bool x166.Reply,.int .i64 x166.From,.int .i64 x166.To,
    .int .i64 x166.Term,.int .i64 x166.Prev,.int .i64 x166.PTerm,lst qh x166.Entry,.int .i64 x166.Commit,
    .int .i64 x166.Match] 0∧fr' 10 = .ref [.bool x177.Reply,.int .i64 x177.From,.int .i64 x177.To,.int .i64 x177.Term,.int .i64 x177.Prev,.int .i64 x177.PTerm,
    lst qh x177.Entry,.int .i64 x177.Commit,
    .int .i64 x177.Match] 0∧fr' 81 = .int .i64 (p9 d8.Mail:Int)∧fr' 82 = .int .i64 (i144:Int)) (fun Q266 hN267=>?_) ?_
  ·simp only [s5,t4]
   simp only [qc (g:=142),B0,reduceIte,a8]
   refine zf (t:=(((((((!(x166.Reply == x177.Reply))||(decide (x166.From≠x177.From)))||(decide (x166.To≠x177.To)))||(decide (x166.Term≠x177.Term))) ||
     (decide (x166.Prev≠x177.Prev)))||(decide (x166.PTerm≠x177.PTerm)))||(decide (x166.Commit≠x177.Commit)))) (fun hg268=>?_) (fun hg268=>?_)
   ·simp only [hg268,qc (g:=142),zx,qw,qb,zo,qa,qm,B0,reduceIte,a8]
    exact hN267 _ _ ⟨hS265,by rw [orT hg268]; simp only [B0,reduceIte,a8],f258,f259,f260,f261,f262,f263⟩
   ·simp only [hg268,qc (g:=142),qr,f260,qo,qb,o7,o8,o9,qn,ql,B0,reduceIte,a8]
    refine qd (v := .int .i64 x166.Match) rfl ?_
    simp only [hg268,qc (g:=142),qr,f261,qo,qb,o7,o8,o9,qn,ql,B0,reduceIte,a8]
    refine qd (v := .int .i64 x177.Match) rfl ?_
    simp only [hg268,qc (g:=142),qr,qx,qb,wz,qw,zn,qa,qm,B0,reduceIte,a8]
    exact hN267 _ _ ⟨hS265,by rw [orF hg268]; simp only [B0,reduceIte,a8],f258,f259,f260,f261,f262,f263⟩
  rintro fr269 h277 ⟨hS278,f270,f271,f272,f273,f274,f275,f276⟩
  simp only [s6,t3]
  simp only [f270,qg,B0,reduceIte,a8]
  obtain ⟨v282,hx283,hF284⟩:=qk hF179
  refine jf 7 (fun fr' h'=>Sep h' (geL h.length) ([])∧fr' 156 = .bool v282∧fr' 2 = .ref [lst qs d8.Peers,
    lst qu d8.Mail] 0∧fr' 3 = .ref [lst qs a9.Peers,
    lst qu a9.Mail] 0∧fr' 81 = .int .i64 (p9 d8.Mail:Int)∧fr' 82 = .int .i64 (i144:Int)) (fun Q279 hN280=>?_) ?_
  ·simp only [s5,t4]
   simp only [qc (g:=149),B0,reduceIte,a8]
   refine zf (t:=((((((((!(x166.Reply == x177.Reply))||(decide (x166.From≠x177.From)))||(decide (x166.To≠x177.To)))||(decide (x166.Term≠x177.Term))) ||
     (decide (x166.Prev≠x177.Prev)))||(decide (x166.PTerm≠x177.PTerm)))||(decide (x166.Commit≠x177.Commit)))||(decide (x166.Match≠x177.Match))))
     (fun hg281=>?_) (fun hg281=>?_)
   ·rw [iteT hg281] at hx283
    simp only [hg281,qc (g:=149),zx,qw,qb,zo,qa,qm,B0,reduceIte,a8]
    have e285:=qj hx283
    exact hN280 _ _ ⟨hS278,by rw [←e285]; simp only [B0,reduceIte,a8],f271,f272,f275,f276⟩
   ·rw [iteF hg281] at hx283
    simp only [hg281,qc (g:=149),qr,f273,qo,qb,o7,o8,o9,qn,ql,B0,reduceIte,a8]
    refine qd (v:=lst qh x166.Entry) rfl ?_
    simp only [hg281,qc (g:=149),qr,f274,qo,qb,o7,o8,o9,qn,ql,B0,reduceIte,a8]
    refine qd (v:=lst qh x177.Entry) rfl ?_
    obtain ⟨v286,hx287,hF288⟩:=qk hx283
    simp only [hg281,qc (g:=149),qr,zi,B0,reduceIte,a8]
    refine jx rfl (qt jh (qt jh zm)) (qbc (fun b hb=>decide_eq_true hb) x166.Entry x177.Entry v286 hx287) ?_
    simp only [hg281,qc (g:=149),qr,jq,qb,kq,qw,zn,qa,qm,B0,reduceIte,a8]
    have e289:=qj hF288
    exact hN280 _ _ ⟨hS278,by rw [←e289]; simp only [B0,reduceIte,a8],f271,f272,f275,f276⟩
  rintro fr290 h296 ⟨hS297,f291,f292,f293,f294,f295⟩
  simp only [s6,t3]
  simp only [qa,f291,q8,B0,reduceIte,a8]
  refine q9 (t:=v282) (fun hc298=>?_) (fun hc298=>?_)
  ·rw [iteT hc298] at hF284
   simp only [qf,qe,qg,qa,zc,B0,reduceIte,a8]
   have e299:=qj hF284
   subst e299
   have ho300:=hr151 _ rfl
   have hk301:=hk149
   rw [ho300] at hk301
   dsimp only [jnO] at hk301
   apply hR155
   have he:=qj hk301
   subst he
   simp only [zr,B0,reduceIte,a8]
   exact rfl
  rw [iteF hc298] at hF284
  simp only [zd,qm,B0,reduceIte,a8]
  have e302:=qj hF284
  exact hN153 _ _ _ e302.symm ⟨f292,f293,hS297⟩ (f295) (f294)
 rintro _ fr304 h305 rfl ⟨f307,f308,hS306⟩
 dsimp only [jnO] at hk149
 unfold qg5 at hk149
 simp only [qf,qe,qg,qa,zc,B0,reduceIte,a8]
 have he:=qj hk149
 subst he
 simp only [zr,B0,reduceIte,a8]
 exact rfl
theorem qeu {W:Nat→Bool}{h:Heap} (hW:∀ b,
  (geL h.length) b→W b=true) (i6:List Entry) (most_1:Int) (r:Bool) (hF:xp i6 most_1=some r) : Ret E W 50 [lst qh i6,
  .int .i64 most_1] h (fun v h'=>cut h.length h' E.sz false 9 v=some (.bool r)):=by
 refine Ret.of (fn:=x50) rfl (Run.of ?_)
 unfold xp at hF
 have zf0:zk [lst qh i6,.int .i64 most_1] 0=lst qh i6:=rfl
 have zf1:zk [lst qh i6,.int .i64 most_1] 1 = .int .i64 most_1:=rfl
 generalize zk [lst qh i6,.int .i64 most_1]=fr0 at zf0 zf1 ⊢
 have hS:Sep h (geL h.length) []:=a14 h
 simp only [x50,qf,qe,qg,qa,q8u,q6z,zf0,zq,qb,z7,B0,reduceIte,a8]
 obtain ⟨oc5,hX7,hk8⟩:=kd hF
 simp only [q90]
 refine yi (σ:=Int) i6 (fun i3 x4 s53=>y8 most_1 i3 x4 s53)
   (fun s fr' h'=>fr' 0=lst qh i6∧fr' 1 = .int .i64 most_1∧fr' 5 = .int .i64 s∧fr' 8=lst qh i6∧Sep h' (geL h.length) ([])) hX7 ⟨zf0,zf1,rfl,
   rfl,hS⟩ (by simp only [B0,reduceIte,a8]) (by simp only [B0,reduceIte,
   a8]) (fun _ _ _ h=>h) rfl rfl (fun _ _ _ _ h=>h) (fun _ _ _ _ h=>h) (fun _ _ _ _ h=>h) (by decide) ?_ ?_
 ·rintro i3 x4 s2 fr17 h18 hx24 ⟨f20,f21,f22,f23,hS19⟩ f25 f26 oc6 hF9 hr10 Q11 hN12 hB16 hK13 hR14 hE15
  unfold y8 at hF9
  simp only [q9q,qf,qe,f23,f25,jj,B0,reduceIte,a8]
  refine qd (v := .ref (qh x4) 0) (yj hx24 rfl) ?_
  simp only [ql,B0,reduceIte,a8]
  refine qd (v := .agg [.int .i64 x4.Term,.int .i64 x4.Value]) rfl ?_
  simp only [ji,B0,reduceIte,a8]
  refine z6 hS19 (fun b27 h28 hS29=>?_)
  simp only [zh,B0,reduceIte,a8]
  refine qy (us:=[.int .i64 x4.Term,.int .i64 x4.Value]) rfl (cs':=[.int .i64 x4.Term,.int .i64 x4.Value]) hS29 hW rfl rfl (nle rfl) rfl (fun h31 hS32=>?_)
  simp only [qa,B0,reduceIte,a8]
  refine jc hS32 hW (by simp only [B0,reduceIte,a8]) (fun h33 hS34=>?_)
  simp only [z5,q84,qf,qe,qo,qb,o7,o8,o9,qn,ql,B0,reduceIte,a8]
  refine qd (v := .int .i64 x4.Term) rfl ?_
  simp only [f22,qg,f21,zi,B0,reduceIte,a8]
  refine jx rfl (qt zb (qt zb (qt zb zm))) (ya (fun b hb=>decide_eq_true hb) x4.Term s2 most_1 _ rfl) ?_
  simp only [jq,qb,kq,qg,B0,reduceIte,a8]
  refine jf 5 (fun fr' h'=>Sep h' (geL h.length) ([])∧fr' 25 = .bool ((!(zg x4.Term s2 most_1)) ||
    (!(zg x4.Value 0 99)))∧fr' 0=lst qh i6∧fr' 1 = .int .i64 most_1∧fr' 7 = .ref [.int .i64 x4.Term,
    .int .i64 x4.Value] 0∧fr' 8=lst qh i6∧fr' 9 = .int .i64 (p9 i6:Int)∧fr' 10 = .int .i64 (i3:Int)) (fun Q35 hN36=>?_) ?_
  ·simp only [s5,t4]
   simp only [qc (g:=20),B0,reduceIte,a8]
   refine zf (t:=(!(zg x4.Term s2 most_1))) (fun hg37=>?_) (fun hg37=>?_)
   ·simp only [hg37,qc (g:=20),zx,qw,qb,zo,qa,qm,B0,reduceIte,a8]
    exact hN36 _ _ ⟨hS34,by rw [orT hg37]; simp only [B0,reduceIte,a8],f20,f21,rfl,f23,f26,f25⟩
   ·simp only [hg37,qc (g:=20),qr,qo,qb,o7,o8,o9,qn,ql,B0,reduceIte,a8]
    refine qd (v := .int .i64 x4.Value) rfl ?_
    simp only [hg37,qc (g:=20),qr,zi,B0,reduceIte,a8]
    refine jx rfl (qt zb (qt zb (qt zb zm))) (ya (fun b hb=>decide_eq_true hb) x4.Value 0 99 _ rfl) ?_
    simp only [hg37,qc (g:=20),qr,jq,qb,kq,qw,zn,qa,qm,B0,reduceIte,a8]
    exact hN36 _ _ ⟨hS34,by rw [orF hg37]; simp only [B0,reduceIte,a8],f20,f21,rfl,f23,f26,f25⟩
  rintro fr38 h46 ⟨hS47,f39,f40,f41,f42,f43,f44,f45⟩
  simp only [s6,t3]
  simp only [qa,f39,q8,B0,reduceIte,a8]
  refine q9 (t:=((!(zg x4.Term s2 most_1))||(!(zg x4.Value 0 99)))) (fun hc48=>?_) (fun hc48=>?_)
  ·rw [iteT hc48] at hF9
   simp only [qf,qe,qg,qa,zc,B0,reduceIte,a8]
   have e49:=qj hF9
   subst e49
   have ho50:=hr10 _ rfl
   have hk51:=hk8
   rw [ho50] at hk51
   dsimp only [jnO] at hk51
   apply hR14
   have he:=qj hk51
   subst he
   simp only [zr,B0,reduceIte,a8]
   exact rfl
  rw [iteF hc48] at hF9
  simp only [zd,qe,f42,qo,qb,o7,o8,o9,qn,ql,B0,reduceIte,a8]
  refine qd (v := .int .i64 x4.Term) rfl ?_
  simp only [qg,qa,qm,B0,reduceIte,a8]
  have e52:=qj hF9
  exact hN12 _ _ _ e52.symm ⟨f40,f41,rfl,f43,hS47⟩ (f45) (f44)
 rintro s54 fr55 h56 rfl ⟨f58,f59,f60,f61,hS57⟩
 dsimp only [jnO] at hk8
 unfold qei at hk8
 simp only [q6c,qf,qe,f58,qg,zq,qb,z7,qx,qhn,qa,zc,B0,reduceIte,a8]
 have he:=qj hk8
 subst he
 simp only [zr,B0,reduceIte,a8]
 exact rfl
theorem qh2 {W:Nat→Bool}{h:Heap} (hW:∀ b,
  (geL h.length) b→W b=true) (s_0:List Mail) {g1:Nat} {caps1:List XV} (hm1:E.mode g1=1) (f_1:Mail→Option Bool) (hf1:∀ (W:Nat→Bool) (h:Heap),(∀ b,
  h.length≤b→W b=true)→∀ a0 r,f_1 a0=some r→Ret E W g1 ([.agg [.bool a0.Reply,.int .i64 a0.From,.int .i64 a0.To,.int .i64 a0.Term,.int .i64 a0.Prev,
  .int .i64 a0.PTerm,lst qh a0.Entry,.int .i64 a0.Commit,
  .int .i64 a0.Match]]++caps1) h (fun v h'=>cut h.length h' E.sz false 9 v=some (.bool r))) (r:Int)
  (hF:qcg s_0 f_1=some r) : Ret E W 98 [lst qu s_0,.fn g1 caps1] h (fun v h'=>cut h.length h' E.sz false 9 v=some (.int .i64 r)):=by
 refine Ret.of (fn:=x98) rfl (Run.of ?_)
 unfold qcg at hF
 have zf0:zk [lst qu s_0,.fn g1 caps1] 0=lst qu s_0:=rfl
 have zf1:zk [lst qu s_0,.fn g1 caps1] 1 = .fn g1 caps1:=rfl
 generalize zk [lst qu s_0,.fn g1 caps1]=fr0 at zf0 zf1 ⊢
 have hS:Sep h (geL h.length) []:=a14 h
 simp only [x98,qf,qe,qg,qa,q5b,zf0,zq,qb,z7,B0,reduceIte,a8]
 obtain ⟨oc3,hX5,hk6⟩:=kd hF
 simp only [q3w]
 refine yi (σ:=Unit) s_0 (fun i1 x2 _=>xz f_1 i1 x2 ) (fun s fr' h'=>fr' 0=lst qu s_0∧fr' 1 = .fn g1 caps1∧Sep h' (geL h.length)
   ([])) hX5 ⟨zf0,zf1,hS⟩ (by simp only [B0,reduceIte,a8]) (by simp only [B0,reduceIte,
   a8]) (fun _ _ _ h=>h) rfl rfl (fun _ _ _ _ h=>h) (fun _ _ _ _ h=>h) (fun _ _ _ _ h=>h) (by decide) ?_ ?_
 ·rintro i1 x2 _ fr15 h16 hx20 ⟨f18,f19,hS17⟩ f21 f22 oc4 hF7 hr8 Q9 hN10 hB14 hK11 hR12 hE13
  unfold xz at hF7
  simp only [q6t,qf,qe,f21,qg,qa,q5q,f19,f18,jj,B0,reduceIte,a8]
  refine qd (v := .ref (qu x2) 0) (yj hx20 rfl) ?_
  simp only [ql,B0,reduceIte,a8]
  refine qd (v := .agg [.bool x2.Reply,.int .i64 x2.From,.int .i64 x2.To,.int .i64 x2.Term,.int .i64 x2.Prev,.int .i64 x2.PTerm,lst qh x2.Entry,
    .int .i64 x2.Commit,.int .i64 x2.Match]) rfl ?_
  obtain ⟨v23,hx24,hF25⟩:=qk hF7
  simp only [zi,B0,reduceIte,a8]
  refine jx hm1 (qt (wk (qt qib (qt zb (qt zb (qt zb (qt zb (qt zb (qt jh (qt zb
    (qt zb zm)))))))))) zm) (hf1 _ _ (fun b hb=>decide_eq_true hb) x2 v23 hx24) ?_
  simp only [qa,q4f,q8,B0,reduceIte,a8]
  refine q9 (t:=v23) (fun hc26=>?_) (fun hc26=>?_)
  ·rw [iteT hc26] at hF25
   simp only [qf,qe,qg,qa,zc,B0,reduceIte,a8]
   have e27:=qj hF25
   subst e27
   have ho28:=hr8 _ rfl
   have hk29:=hk6
   rw [ho28] at hk29
   dsimp only [jnO] at hk29
   apply hR12
   have he:=qj hk29
   subst he
   simp only [zr,B0,reduceIte,a8]
   exact rfl
  rw [iteF hc26] at hF25
  simp only [zd,qm,B0,reduceIte,a8]
  have e30:=qj hF25
  exact hN10 _ _ _ e30.symm ⟨f18,f19,hS17⟩ (f21) (f22)
 rintro _ fr32 h33 rfl ⟨f35,f36,hS34⟩
 dsimp only [jnO] at hk6
 unfold qdt at hk6
 simp only [qf,qe,qg,qa,zc,B0,reduceIte,a8]
 have he:=qj hk6
 subst he
 simp only [zr,B0,reduceIte,a8]
 exact rfl
theorem qgz {W:Nat→Bool}{h:Heap} (hW:∀ b,
  (geL h.length) b→W b=true) (s_0:List Mail) {g1:Nat} {caps1:List XV} (hm1:E.mode g1=1) (f_1:Mail→Option Bool) (hf1:∀ (W:Nat→Bool) (h:Heap),(∀ b,
  h.length≤b→W b=true)→∀ a0 r,f_1 a0=some r→Ret E W g1 ([.agg [.bool a0.Reply,.int .i64 a0.From,.int .i64 a0.To,.int .i64 a0.Term,.int .i64 a0.Prev,
  .int .i64 a0.PTerm,lst qh a0.Entry,.int .i64 a0.Commit,
  .int .i64 a0.Match]]++caps1) h (fun v h'=>cut h.length h' E.sz false 9 v=some (.bool r))) (r:Bool)
  (hF:qaw s_0 f_1=some r) : Ret E W 80 [lst qu s_0,.fn g1 caps1] h (fun v h'=>cut h.length h' E.sz false 9 v=some (.bool r)):=by
 refine Ret.of (fn:=x80) rfl (Run.of ?_)
 unfold qaw at hF
 have zf0:zk [lst qu s_0,.fn g1 caps1] 0=lst qu s_0:=rfl
 have zf1:zk [lst qu s_0,.fn g1 caps1] 1 = .fn g1 caps1:=rfl
 generalize zk [lst qu s_0,.fn g1 caps1]=fr0 at zf0 zf1 ⊢
 have hS:Sep h (geL h.length) []:=a14 h
 obtain ⟨v1,hx2,hF3⟩:=qk hF
 simp only [x80,qf,qe,qg,qa,q4t,zf0,zf1,zi,B0,reduceIte,a8]
 refine jx rfl (qt jh (qt qj7 zm)) (qh2 (fun b hb=>decide_eq_true hb) s_0 (g1:=g1) (caps1:=caps1) hm1 f_1 hf1 v1 hx2) ?_
 simp only [qx,qb,qga,qg,qa,zc,B0,reduceIte,a8]
 have he:=qj hF3
 subst he
 simp only [zr,B0,reduceIte,a8]
 exact rfl
theorem qhq {W:Nat→Bool}{h:Heap} (hW:∀ b,
  (geL h.length) b→W b=true) (s_0:List Entry) {g1:Nat} {caps1:List XV} (hm1:E.mode g1=1) (f_1:Entry→Option Bool) (hf1:∀ (W:Nat→Bool) (h:Heap),(∀ b,
  h.length≤b→W b=true)→∀ a0 r,f_1 a0=some r→Ret E W g1 ([.agg [.int .i64 a0.Term,
  .int .i64 a0.Value]]++caps1) h (fun v h'=>cut h.length h' E.sz false 9 v=some (.bool r))) (r:Int)
  (hF:qbk s_0 f_1=some r) : Ret E W 106 [lst qh s_0,.fn g1 caps1] h (fun v h'=>cut h.length h' E.sz false 9 v=some (.int .i64 r)):=by
 refine Ret.of (fn:=qsa) rfl (Run.of ?_)
 unfold qbk at hF
 have zf0:zk [lst qh s_0,.fn g1 caps1] 0=lst qh s_0:=rfl
 have zf1:zk [lst qh s_0,.fn g1 caps1] 1 = .fn g1 caps1:=rfl
 generalize zk [lst qh s_0,.fn g1 caps1]=fr0 at zf0 zf1 ⊢
 have hS:Sep h (geL h.length) []:=a14 h
 simp only [qsa,qf,qe,qg,qa,qtb,zf0,zq,qb,z7,B0,reduceIte,a8]
 obtain ⟨oc3,hX5,hk6⟩:=kd hF
 simp only [qxw]
 refine yi (σ:=Unit) s_0 (fun i1 x2 _=>xq f_1 i1 x2 ) (fun s fr' h'=>fr' 0=lst qh s_0∧fr' 1 = .fn g1 caps1∧Sep h'
   (geL h.length) ([])) hX5 ⟨zf0,zf1,hS⟩ (by simp only [B0,reduceIte,a8]) (by simp only [B0,reduceIte,
   a8]) (fun _ _ _ h=>h) rfl rfl (fun _ _ _ _ h=>h) (fun _ _ _ _ h=>h) (fun _ _ _ _ h=>h) (by decide) ?_ ?_
 ·rintro i1 x2 _ fr15 h16 hx20 ⟨f18,f19,hS17⟩ f21 f22 oc4 hF7 hr8 Q9 hN10 hB14 hK11 hR12 hE13
  unfold xq at hF7
  simp only [qz8,qf,qe,f21,qg,qa,qwx,f19,f18,jj,B0,reduceIte,a8]
  refine qd (v := .ref (qh x2) 0) (yj hx20 rfl) ?_
  simp only [ql,B0,reduceIte,a8]
  refine qd (v := .agg [.int .i64 x2.Term,.int .i64 x2.Value]) rfl ?_
  obtain ⟨v23,hx24,hF25⟩:=qk hF7
  simp only [zi,B0,reduceIte,a8]
  refine jx hm1 (qt (wk (qt zb (qt zb zm))) zm) (hf1 _ _ (fun b hb=>decide_eq_true hb) x2 v23 hx24) ?_
  simp only [qa,quf,q8,B0,reduceIte,a8]
  refine q9 (t:=v23) (fun hc26=>?_) (fun hc26=>?_)
  ·rw [iteT hc26] at hF25
   simp only [qf,qe,qg,qa,zc,B0,reduceIte,a8]
   have e27:=qj hF25
   subst e27
   have ho28:=hr8 _ rfl
   have hk29:=hk6
   rw [ho28] at hk29
   dsimp only [jnO] at hk29
   apply hR12
   have he:=qj hk29
   subst he
   simp only [zr,B0,reduceIte,a8]
   exact rfl
  rw [iteF hc26] at hF25
  simp only [zd,qm,B0,reduceIte,a8]
  have e30:=qj hF25
  exact hN10 _ _ _ e30.symm ⟨f18,f19,hS17⟩ (f21) (f22)
 rintro _ fr32 h33 rfl ⟨f35,f36,hS34⟩
 dsimp only [jnO] at hk6
 unfold qdj at hk6
 simp only [qf,qe,qg,qa,zc,B0,reduceIte,a8]
 have he:=qj hk6
 subst he
 simp only [zr,B0,reduceIte,a8]
 exact rfl
theorem qgo {W:Nat→Bool}{h:Heap} (hW:∀ b,
  (geL h.length) b→W b=true) (s_0:List Entry) {g1:Nat} {caps1:List XV} (hm1:E.mode g1=1) (f_1:Entry→Option Bool) (hf1:∀ (W:Nat→Bool) (h:Heap),(∀ b,
  h.length≤b→W b=true)→∀ a0 r,f_1 a0=some r→Ret E W g1 ([.agg [.int .i64 a0.Term,
  .int .i64 a0.Value]]++caps1) h (fun v h'=>cut h.length h' E.sz false 9 v=some (.bool r))) (r:Bool)
  (hF:qai s_0 f_1=some r) : Ret E W 99 [lst qh s_0,.fn g1 caps1] h (fun v h'=>cut h.length h' E.sz false 9 v=some (.bool r)):=by
 refine Ret.of (fn:=x99) rfl (Run.of ?_)
 unfold qai at hF
 have zf0:zk [lst qh s_0,.fn g1 caps1] 0=lst qh s_0:=rfl
 have zf1:zk [lst qh s_0,.fn g1 caps1] 1 = .fn g1 caps1:=rfl
 generalize zk [lst qh s_0,.fn g1 caps1]=fr0 at zf0 zf1 ⊢
 have hS:Sep h (geL h.length) []:=a14 h
 obtain ⟨v1,hx2,hF3⟩:=qk hF
 simp only [x99,qf,qe,qg,qa,q6p,zf0,zf1,zi,B0,reduceIte,a8]
 refine jx rfl (qt jh (qt qj7 zm)) (qhq (fun b hb=>decide_eq_true hb) s_0 (g1:=g1) (caps1:=caps1) hm1 f_1 hf1 v1 hx2) ?_
 simp only [qx,qb,qga,qg,qa,zc,B0,reduceIte,a8]
 have he:=qj hF3
 subst he
 simp only [zr,B0,reduceIte,a8]
 exact rfl
end Go.Proofs.Ytanblnjomhgphaa.X
namespace Go.Proofs.Ytanblnjomhgphaa.X
open Go
theorem qln {W:Nat→Bool}{h:Heap} (hW:∀ b,
  (geL h.length) b→W b=true) (e_0:Entry) (cap_0:Mail) (r:Bool) (hF:some (u7 e_0 cap_0)=some r) : Ret E W 100 [.agg [.int .i64 e_0.Term,
  .int .i64 e_0.Value],.ref (qu cap_0) 0] h (fun v h'=>cut h.length h' E.sz false 9 v=some (.bool r)):=by
 refine Ret.of (fn:=qrt) rfl (Run.of ?_)
 unfold u7 at hF
 have zf0:zk [.agg [.int .i64 e_0.Term,.int .i64 e_0.Value],.ref (qu cap_0) 0] 0 = .agg [.int .i64 e_0.Term,.int .i64 e_0.Value]:=rfl
 have zf1:zk [.agg [.int .i64 e_0.Term,.int .i64 e_0.Value],.ref (qu cap_0) 0] 1 = .ref (qu cap_0) 0:=rfl
 generalize zk [.agg [.int .i64 e_0.Term,.int .i64 e_0.Value],.ref (qu cap_0) 0]=fr0 at zf0 zf1 ⊢
 have hS:Sep h (geL h.length) []:=a14 h
 simp only [qrt,qf,qe,ym,zf0,B0,reduceIte,a8]
 refine ko (cs:=[.int .i64 e_0.Term,.int .i64 e_0.Value]) hS rfl rfl rfl (fun b1 h2 hS3=>?_)
 simp only [qg,qa,B0,reduceIte,a8]
 refine jc hS3 hW (by simp only [B0,reduceIte,a8]) (fun h5 hS6=>?_)
 simp only [z5,qw1,qf,qe,qo,qb,o7,o8,o9,qn,ql,B0,reduceIte,a8]
 refine qd (v := .int .i64 e_0.Term) rfl ?_
 simp only [zf1,qo,qb,o7,o8,o9,qn,ql,B0,reduceIte,a8]
 refine qd (v := .int .i64 cap_0.PTerm) rfl ?_
 simp only [qnj,qb,qog,zf1,qo,o7,o8,o9,qn,ql,B0,reduceIte,a8]
 refine qd (v := .int .i64 cap_0.Term) rfl ?_
 simp only [zi,B0,reduceIte,a8]
 refine jx rfl (qt zb (qt zb (qt zb zm))) (ya (fun b hb=>decide_eq_true hb) e_0.Term (mxI cap_0.PTerm 0) cap_0.Term _ rfl) ?_
 simp only [jq,qb,kq,qg,B0,reduceIte,a8]
 refine jf 5 (fun fr' h'=>Sep h' (geL h.length) ([])∧fr' 18 = .bool ((!(zg e_0.Term (mxI cap_0.PTerm 0) cap_0.Term))||(!(zg e_0.Value 0 99))))
   (fun Q7 hN8=>?_) ?_
 ·simp only [s5,t4]
  simp only [qc (g:=13),B0,reduceIte,a8]
  refine zf (t:=(!(zg e_0.Term (mxI cap_0.PTerm 0) cap_0.Term))) (fun hg9=>?_) (fun hg9=>?_)
  ·simp only [hg9,qc (g:=13),zx,qw,qb,zo,qa,qm,B0,reduceIte,a8]
   exact hN8 _ _ ⟨hS6,by rw [orT hg9]; simp only [B0,reduceIte,a8]⟩
  ·simp only [hg9,qc (g:=13),qr,qo,qb,o7,o8,o9,qn,ql,B0,reduceIte,a8]
   refine qd (v := .int .i64 e_0.Value) rfl ?_
   simp only [hg9,qc (g:=13),qr,zi,B0,reduceIte,a8]
   refine jx rfl (qt zb (qt zb (qt zb zm))) (ya (fun b hb=>decide_eq_true hb) e_0.Value 0 99 _ rfl) ?_
   simp only [hg9,qc (g:=13),qr,jq,qb,kq,qw,zn,qa,qm,B0,reduceIte,a8]
   exact hN8 _ _ ⟨hS6,by rw [orF hg9]; simp only [B0,reduceIte,a8]⟩
 rintro fr10 h12 ⟨hS13,f11⟩
 simp only [s6,t3]
 simp only [f11,qg,qa,zc,B0,reduceIte,a8]
 have he:=qj hF
 subst he
 simp only [zr,B0,reduceIte,a8]
 exact rfl
theorem qob {W:Nat→Bool}{h:Heap} (hW:∀ b,
  (geL h.length) b→W b=true) (d8:Mail) (a9:Int) (r:Bool) (hF:qej d8 a9=some r) : Ret E W 82 [.agg [.bool d8.Reply,.int .i64 d8.From,
  .int .i64 d8.To,.int .i64 d8.Term,.int .i64 d8.Prev,.int .i64 d8.PTerm,lst qh d8.Entry,.int .i64 d8.Commit,.int .i64 d8.Match],
  .int .i64 a9] h (fun v h'=>cut h.length h' E.sz false 9 v=some (.bool r)):=by
 refine Ret.of (fn:=x82) rfl (Run.of ?_)
 unfold qej at hF
 have zf0:zk [.agg [.bool d8.Reply,.int .i64 d8.From,.int .i64 d8.To,.int .i64 d8.Term,.int .i64 d8.Prev,.int .i64 d8.PTerm,lst qh d8.Entry,
   .int .i64 d8.Commit,.int .i64 d8.Match],.int .i64 a9] 0 = .agg [.bool d8.Reply,.int .i64 d8.From,.int .i64 d8.To,.int .i64 d8.Term,.int .i64 d8.Prev,
   .int .i64 d8.PTerm,lst qh d8.Entry,.int .i64 d8.Commit,.int .i64 d8.Match]:=rfl
 have zf1:zk [.agg [.bool d8.Reply,.int .i64 d8.From,.int .i64 d8.To,.int .i64 d8.Term,.int .i64 d8.Prev,.int .i64 d8.PTerm,lst qh d8.Entry,
   .int .i64 d8.Commit,.int .i64 d8.Match],.int .i64 a9] 1 = .int .i64 a9:=rfl
 generalize zk [.agg [.bool d8.Reply,.int .i64 d8.From,.int .i64 d8.To,.int .i64 d8.Term,.int .i64 d8.Prev,.int .i64 d8.PTerm,lst qh d8.Entry,
   .int .i64 d8.Commit,.int .i64 d8.Match],.int .i64 a9]=fr0 at zf0 zf1 ⊢
 have hS:Sep h (geL h.length) []:=a14 h
 simp only [x82,qf,qe,ym,zf0,B0,reduceIte,a8]
 refine ko (cs:=[.bool d8.Reply,.int .i64 d8.From,.int .i64 d8.To,.int .i64 d8.Term,.int .i64 d8.Prev,.int .i64 d8.PTerm,lst qh d8.Entry,
   .int .i64 d8.Commit,.int .i64 d8.Match]) hS rfl rfl rfl (fun b1 h2 hS3=>?_)
 simp only [qg,qa,B0,reduceIte,a8]
 refine jc hS3 hW (by simp only [B0,reduceIte,a8]) (fun h5 hS6=>?_)
 simp only [z5,q7u,qf,qe,qo,qb,o7,o8,o9,qn,ql,B0,reduceIte,a8]
 refine qd (v := .int .i64 d8.From) rfl ?_
 simp only [zf1,qg,qx,qb,qbp,zi,B0,reduceIte,a8]
 refine jx rfl (qt zb (qt zb (qt zb zm))) (ya (fun b hb=>decide_eq_true hb) d8.From 0 (r8 .i64 (a9 - 1)) _ rfl) ?_
 simp only [jq,qb,kq,qg,B0,reduceIte,a8]
 refine jf 7 (fun fr' h'=>Sep h' (geL h.length) ([])∧fr' 18 = .bool ((!(zg d8.From 0 (r8 .i64 (a9 - 1))))||(!(zg d8.To 0 (r8 .i64
   (a9 - 1)))))∧fr' 2 = .ref [.bool d8.Reply,.int .i64 d8.From,.int .i64 d8.To,.int .i64 d8.Term,.int .i64 d8.Prev,.int .i64 d8.PTerm,lst qh d8.Entry,
   .int .i64 d8.Commit,.int .i64 d8.Match] 0) (fun Q7 hN8=>?_) ?_
 ·simp only [s5,t4]
  simp only [qc (g:=11),B0,reduceIte,a8]
  refine zf (t:=(!(zg d8.From 0 (r8 .i64 (a9 - 1))))) (fun hg9=>?_) (fun hg9=>?_)
  ·simp only [hg9,qc (g:=11),zx,qw,qb,zo,qa,qm,B0,reduceIte,a8]
   exact hN8 _ _ ⟨hS6,by rw [orT hg9]; simp only [B0,reduceIte,a8],rfl⟩
  ·simp only [hg9,qc (g:=11),qr,qo,qb,o7,o8,o9,qn,ql,B0,reduceIte,a8]
   refine qd (v := .int .i64 d8.To) rfl ?_
   simp only [hg9,qc (g:=11),qr,zf1,qg,qx,qb,qbp,zi,B0,reduceIte,a8]
   refine jx rfl (qt zb (qt zb (qt zb zm))) (ya (fun b hb=>decide_eq_true hb) d8.To 0 (r8 .i64 (a9 - 1)) _ rfl) ?_
   simp only [hg9,qc (g:=11),qr,jq,qb,kq,qw,zn,qa,qm,B0,reduceIte,a8]
   exact hN8 _ _ ⟨hS6,by rw [orF hg9]; simp only [B0,reduceIte,a8],rfl⟩
 rintro fr10 h13 ⟨hS14,f11,f12⟩
 simp only [s6,t3]
 simp only [f11,qg,B0,reduceIte,a8]
 refine jf 6 (fun fr' h'=>Sep h' (geL h.length) ([])∧fr' 25 = .bool (((!(zg d8.From 0 (r8 .i64 (a9 - 1))))||(!(zg d8.To 0 (r8 .i64
   (a9 - 1)))))||(decide (d8.From=d8.To)))∧fr' 2 = .ref [.bool d8.Reply,.int .i64 d8.From,.int .i64 d8.To,.int .i64 d8.Term,.int .i64 d8.Prev,
   .int .i64 d8.PTerm,lst qh d8.Entry,.int .i64 d8.Commit,.int .i64 d8.Match] 0) (fun Q15 hN16=>?_) ?_
 ·simp only [s5,t4]
  simp only [qc (g:=19),B0,reduceIte,a8]
  refine zf (t:=((!(zg d8.From 0 (r8 .i64 (a9 - 1))))||(!(zg d8.To 0 (r8 .i64 (a9 - 1)))))) (fun hg17=>?_) (fun hg17=>?_)
  ·simp only [hg17,qc (g:=19),zx,qw,qb,zo,qa,qm,B0,reduceIte,a8]
   exact hN16 _ _ ⟨hS14,by rw [orT hg17]; simp only [B0,reduceIte,a8],f12⟩
  ·simp only [hg17,qc (g:=19),qr,f12,qo,qb,o7,o8,o9,qn,ql,B0,reduceIte,a8]
   refine qd (v := .int .i64 d8.From) rfl ?_
   simp only [hg17,qc (g:=19),qr,f12,qo,qb,o7,o8,o9,qn,ql,B0,reduceIte,a8]
   refine qd (v := .int .i64 d8.To) rfl ?_
   simp only [hg17,qc (g:=19),qr,qx,qb,ku,qw,zn,qa,qm,B0,reduceIte,a8]
   exact hN16 _ _ ⟨hS14,by rw [orF hg17]; simp only [B0,reduceIte,a8],f12⟩
 rintro fr18 h21 ⟨hS22,f19,f20⟩
 simp only [s6,t3]
 simp only [f19,qg,B0,reduceIte,a8]
 refine jf 5 (fun fr' h'=>Sep h' (geL h.length) ([])∧fr' 31 = .bool ((((!(zg d8.From 0 (r8 .i64 (a9 - 1))))||(!(zg d8.To 0 (r8 .i64
   (a9 - 1)))))||(decide (d8.From=d8.To)))||(!(zg d8.Term 0 100)))∧fr' 2 = .ref [.bool d8.Reply,.int .i64 d8.From,.int .i64 d8.To,.int .i64 d8.Term,
   .int .i64 d8.Prev,.int .i64 d8.PTerm,lst qh d8.Entry,.int .i64 d8.Commit,.int .i64 d8.Match] 0) (fun Q23 hN24=>?_) ?_
 ·simp only [s5,t4]
  simp only [qc (g:=26),B0,reduceIte,a8]
  refine zf (t:=(((!(zg d8.From 0 (r8 .i64 (a9 - 1))))||(!(zg d8.To 0 (r8 .i64 (a9 - 1)))))||(decide (d8.From=d8.To))))
    (fun hg25=>?_) (fun hg25=>?_)
  ·simp only [hg25,qc (g:=26),zx,qw,qb,zo,qa,qm,B0,reduceIte,a8]
   exact hN24 _ _ ⟨hS22,by rw [orT hg25]; simp only [B0,reduceIte,a8],f20⟩
  ·simp only [hg25,qc (g:=26),qr,f20,qo,qb,o7,o8,o9,qn,ql,B0,reduceIte,a8]
   refine qd (v := .int .i64 d8.Term) rfl ?_
   simp only [hg25,qc (g:=26),qr,zi,B0,reduceIte,a8]
   refine jx rfl (qt zb (qt zb (qt zb zm))) (ya (fun b hb=>decide_eq_true hb) d8.Term 0 100 _ rfl) ?_
   simp only [hg25,qc (g:=26),qr,jq,qb,kq,qw,zn,qa,qm,B0,reduceIte,a8]
   exact hN24 _ _ ⟨hS22,by rw [orF hg25]; simp only [B0,reduceIte,a8],f20⟩
 rintro fr26 h29 ⟨hS30,f27,f28⟩
 simp only [s6,t3]
 simp only [qa,f27,q8,B0,reduceIte,a8]
 refine q9 (t:=((((!(zg d8.From 0 (r8 .i64 (a9 - 1))))||(!(zg d8.To 0 (r8 .i64 (a9 - 1)))))||(decide (d8.From=d8.To))) ||
   (!(zg d8.Term 0 100)))) (fun hc31=>?_) (fun hc31=>?_)
 ·rw [iteT hc31] at hF
  simp only [qf,qe,qg,qa,zc,B0,reduceIte,a8]
  have he:=qj hF
  subst he
  simp only [zr,B0,reduceIte,a8]
  exact rfl
 rw [iteF hc31] at hF
 simp only [zd,q32,qf,qe,f28,qo,qb,o7,o8,o9,qn,ql,B0,reduceIte,a8]
 refine qd (v := .bool d8.Reply) rfl ?_
 simp only [qa,q9a,q8,B0,reduceIte,a8]
 refine q9 (t:=d8.Reply) (fun hc32=>?_) (fun hc32=>?_)
 ·rw [iteT hc32] at hF
  simp only [q81,qf,qe,f28,qo,qb,o7,o8,o9,qn,ql,B0,reduceIte,a8]
  refine qd (v := .int .i64 d8.Prev) rfl ?_
  simp only [qx,qb,ku,qg,B0,reduceIte,a8]
  refine jf 4 (fun fr' h'=>Sep h' (geL h.length) ([])∧fr' 41 = .bool ((decide (d8.Prev=0))&&(decide (d8.PTerm=0)))∧fr' 2 = .ref [.bool d8.Reply,
    .int .i64 d8.From,.int .i64 d8.To,.int .i64 d8.Term,.int .i64 d8.Prev,.int .i64 d8.PTerm,lst qh d8.Entry,.int .i64 d8.Commit,
    .int .i64 d8.Match] 0) (fun Q33 hN34=>?_) ?_
  ·simp only [s5,t4]
   simp only [qc (g:=37),B0,reduceIte,a8]
   refine zf (t:=(decide (d8.Prev=0))) (fun hg35=>?_) (fun hg35=>?_)
   ·simp only [hg35,qc (g:=37),zu,f28,qo,qb,o7,o8,o9,qn,ql,B0,reduceIte,a8]
    refine qd (v := .int .i64 d8.PTerm) rfl ?_
    simp only [hg35,qc (g:=37),zu,qx,qb,ku,qw,zo,qa,qm,B0,reduceIte,a8]
    exact hN34 _ _ ⟨hS30,by rw [qat hg35]; simp only [B0,reduceIte,a8],f28⟩
   ·simp only [hg35,qc (g:=37),kj,qw,qb,zn,qa,qm,B0,reduceIte,a8]
    exact hN34 _ _ ⟨hS30,by rw [qao hg35]; simp only [B0,reduceIte,a8],f28⟩
  rintro fr36 h39 ⟨hS40,f37,f38⟩
  simp only [s6,t3]
  simp only [f37,qg,B0,reduceIte,a8]
  refine jf 5 (fun fr' h'=>Sep h' (geL h.length) ([])∧fr' 47 = .bool (((decide (d8.Prev=0))&&(decide (d8.PTerm=0)))&&(decide
    ((p9 d8.Entry:Int)=0)))∧fr' 2 = .ref [.bool d8.Reply,.int .i64 d8.From,.int .i64 d8.To,.int .i64 d8.Term,.int .i64 d8.Prev,.int .i64 d8.PTerm,
    lst qh d8.Entry,.int .i64 d8.Commit,.int .i64 d8.Match] 0) (fun Q41 hN42=>?_) ?_
  ·simp only [s5,t4]
   simp only [qc (g:=42),B0,reduceIte,a8]
   refine zf (t:=((decide (d8.Prev=0))&&(decide (d8.PTerm=0)))) (fun hg43=>?_) (fun hg43=>?_)
   ·simp only [hg43,qc (g:=42),zu,f38,qo,qb,o7,o8,o9,qn,ql,B0,reduceIte,a8]
    refine qd (v:=lst qh d8.Entry) rfl ?_
    simp only [hg43,qc (g:=42),zu,zq,qb,z7,qx,ku,qw,zo,qa,qm,B0,reduceIte,a8]
    exact hN42 _ _ ⟨hS40,by rw [qat hg43]; simp only [B0,reduceIte,a8],f38⟩
   ·simp only [hg43,qc (g:=42),kj,qw,qb,zn,qa,qm,B0,reduceIte,a8]
    exact hN42 _ _ ⟨hS40,by rw [qao hg43]; simp only [B0,reduceIte,a8],f38⟩
  rintro fr44 h47 ⟨hS48,f45,f46⟩
  simp only [s6,t3]
  simp only [f45,qg,B0,reduceIte,a8]
  refine jf 4 (fun fr' h'=>Sep h' (geL h.length) ([])∧fr' 52 = .bool ((((decide (d8.Prev=0))&&(decide (d8.PTerm=0)))&&(decide
    ((p9 d8.Entry:Int)=0)))&&(decide (d8.Commit=0)))∧fr' 2 = .ref [.bool d8.Reply,.int .i64 d8.From,.int .i64 d8.To,.int .i64 d8.Term,
    .int .i64 d8.Prev,.int .i64 d8.PTerm,lst qh d8.Entry,.int .i64 d8.Commit,.int .i64 d8.Match] 0) (fun Q49 hN50=>?_) ?_
  ·simp only [s5,t4]
   simp only [qc (g:=48),B0,reduceIte,a8]
   refine zf (t:=(((decide (d8.Prev=0))&&(decide (d8.PTerm=0)))&&(decide ((p9 d8.Entry:Int)=0)))) (fun hg51=>?_) (fun hg51=>?_)
   ·simp only [hg51,qc (g:=48),zu,f46,qo,qb,o7,o8,o9,qn,ql,B0,reduceIte,a8]
    refine qd (v := .int .i64 d8.Commit) rfl ?_
    simp only [hg51,qc (g:=48),zu,qx,qb,ku,qw,zo,qa,qm,B0,reduceIte,a8]
    exact hN50 _ _ ⟨hS48,by rw [qat hg51]; simp only [B0,reduceIte,a8],f46⟩
   ·simp only [hg51,qc (g:=48),kj,qw,qb,zn,qa,qm,B0,reduceIte,a8]
    exact hN50 _ _ ⟨hS48,by rw [qao hg51]; simp only [B0,reduceIte,a8],f46⟩
  rintro fr52 h55 ⟨hS56,f53,f54⟩
  simp only [s6,t3]
  simp only [f53,qg,B0,reduceIte,a8]
  refine jf 4 (fun fr' h'=>Sep h' (geL h.length) ([])∧fr' 57 = .bool (((((decide (d8.Prev=0))&&(decide (d8.PTerm=0)))&&(decide
    ((p9 d8.Entry:Int)=0)))&&(decide (d8.Commit=0)))&&(zg d8.Match 0 30))) (fun Q57 hN58=>?_) ?_
  ·simp only [s5,t4]
   simp only [qc (g:=53),B0,reduceIte,a8]
   refine zf (t:=((((decide (d8.Prev=0))&&(decide (d8.PTerm=0)))&&(decide ((p9 d8.Entry:Int)=0)))&&(decide (d8.Commit=0))))
     (fun hg59=>?_) (fun hg59=>?_)
   ·simp only [hg59,qc (g:=53),zu,f54,qo,qb,o7,o8,o9,qn,ql,B0,reduceIte,a8]
    refine qd (v := .int .i64 d8.Match) rfl ?_
    simp only [hg59,qc (g:=53),zu,zi,B0,reduceIte,a8]
    refine jx rfl (qt zb (qt zb (qt zb zm))) (ya (fun b hb=>decide_eq_true hb) d8.Match 0 30 _ rfl) ?_
    simp only [hg59,qw,qb,zo,qa,qm,B0,reduceIte,a8]
    exact hN58 _ _ ⟨hS56,by rw [qat hg59]; simp only [B0,reduceIte,a8]⟩
   ·simp only [hg59,qc (g:=53),kj,qw,qb,zn,qa,qm,B0,reduceIte,a8]
    exact hN58 _ _ ⟨hS56,by rw [qao hg59]; simp only [B0,reduceIte,a8]⟩
  rintro fr60 h62 ⟨hS63,f61⟩
  simp only [s6,t3]
  simp only [f61,qg,qa,zc,B0,reduceIte,a8]
  have he:=qj hF
  subst he
  simp only [zr,B0,reduceIte,a8]
  exact rfl
 rw [iteF hc32] at hF
 simp only [zd,q8m,qf,qe,f28,qo,qb,o7,o8,o9,qn,ql,B0,reduceIte,a8]
 refine qd (v := .int .i64 d8.Match) rfl ?_
 simp only [qx,qb,wz,qg,B0,reduceIte,a8]
 refine jf 5 (fun fr' h'=>Sep h' (geL h.length) ([])∧fr' 66 = .bool ((decide (d8.Match≠0))||(!(zg d8.Prev 0 30)))∧fr' 2 = .ref [.bool d8.Reply,
   .int .i64 d8.From,.int .i64 d8.To,.int .i64 d8.Term,.int .i64 d8.Prev,.int .i64 d8.PTerm,lst qh d8.Entry,.int .i64 d8.Commit,
   .int .i64 d8.Match] 0) (fun Q64 hN65=>?_) ?_
 ·simp only [s5,t4]
  simp only [qc (g:=61),B0,reduceIte,a8]
  refine zf (t:=(decide (d8.Match≠0))) (fun hg66=>?_) (fun hg66=>?_)
  ·simp only [hg66,qc (g:=61),zx,qw,qb,zo,qa,qm,B0,reduceIte,a8]
   exact hN65 _ _ ⟨hS30,by rw [orT hg66]; simp only [B0,reduceIte,a8],f28⟩
  ·simp only [hg66,qc (g:=61),qr,f28,qo,qb,o7,o8,o9,qn,ql,B0,reduceIte,a8]
   refine qd (v := .int .i64 d8.Prev) rfl ?_
   simp only [hg66,qc (g:=61),qr,zi,B0,reduceIte,a8]
   refine jx rfl (qt zb (qt zb (qt zb zm))) (ya (fun b hb=>decide_eq_true hb) d8.Prev 0 30 _ rfl) ?_
   simp only [hg66,qc (g:=61),qr,jq,qb,kq,qw,zn,qa,qm,B0,reduceIte,a8]
   exact hN65 _ _ ⟨hS30,by rw [orF hg66]; simp only [B0,reduceIte,a8],f28⟩
 rintro fr67 h70 ⟨hS71,f68,f69⟩
 simp only [s6,t3]
 simp only [f68,qg,B0,reduceIte,a8]
 refine jf 5 (fun fr' h'=>Sep h' (geL h.length) ([])∧fr' 72 = .bool (((decide (d8.Match≠0))||(!(zg d8.Prev 0 30))) ||
   (!(zg d8.Commit 0 30)))∧fr' 2 = .ref [.bool d8.Reply,.int .i64 d8.From,.int .i64 d8.To,.int .i64 d8.Term,.int .i64 d8.Prev,.int .i64 d8.PTerm,
   lst qh d8.Entry,.int .i64 d8.Commit,.int .i64 d8.Match] 0) (fun Q72 hN73=>?_) ?_
 ·simp only [s5,t4]
  simp only [qc (g:=67),B0,reduceIte,a8]
  refine zf (t:=((decide (d8.Match≠0))||(!(zg d8.Prev 0 30)))) (fun hg74=>?_) (fun hg74=>?_)
  ·simp only [hg74,qc (g:=67),zx,qw,qb,zo,qa,qm,B0,reduceIte,a8]
   exact hN73 _ _ ⟨hS71,by rw [orT hg74]; simp only [B0,reduceIte,a8],f69⟩
  ·simp only [hg74,qc (g:=67),qr,f69,qo,qb,o7,o8,o9,qn,ql,B0,reduceIte,a8]
   refine qd (v := .int .i64 d8.Commit) rfl ?_
   simp only [hg74,qc (g:=67),qr,zi,B0,reduceIte,a8]
   refine jx rfl (qt zb (qt zb (qt zb zm))) (ya (fun b hb=>decide_eq_true hb) d8.Commit 0 30 _ rfl) ?_
   simp only [hg74,qc (g:=67),qr,jq,qb,kq,qw,zn,qa,qm,B0,reduceIte,a8]
   exact hN73 _ _ ⟨hS71,by rw [orF hg74]; simp only [B0,reduceIte,a8],f69⟩
 rintro fr75 h78 ⟨hS79,f76,f77⟩
 simp only [s6,t3]
 simp only [f76,qg,B0,reduceIte,a8]
 refine jf 7 (fun fr' h'=>Sep h' (geL h.length) ([])∧fr' 80 = .bool ((((decide (d8.Match≠0))||(!(zg d8.Prev 0 30)))||(!(zg d8.Commit 0 30))) ||
   (!(zg d8.PTerm (-1) d8.Term)))∧fr' 2 = .ref [.bool d8.Reply,.int .i64 d8.From,.int .i64 d8.To,.int .i64 d8.Term,.int .i64 d8.Prev,.int .i64 d8.PTerm,
   lst qh d8.Entry,.int .i64 d8.Commit,.int .i64 d8.Match] 0) (fun Q80 hN81=>?_) ?_
 ·simp only [s5,t4]
  simp only [qc (g:=73),B0,reduceIte,a8]
  refine zf (t:=(((decide (d8.Match≠0))||(!(zg d8.Prev 0 30)))||(!(zg d8.Commit 0 30)))) (fun hg82=>?_) (fun hg82=>?_)
  ·simp only [hg82,qc (g:=73),zx,qw,qb,zo,qa,qm,B0,reduceIte,a8]
   exact hN81 _ _ ⟨hS79,by rw [orT hg82]; simp only [B0,reduceIte,a8],f77⟩
  ·simp only [hg82,qc (g:=73),qr,f77,qo,qb,o7,o8,o9,qn,ql,B0,reduceIte,a8]
   refine qd (v := .int .i64 d8.PTerm) rfl ?_
   simp only [hg82,qc (g:=73),qr,f77,qo,qb,o7,o8,o9,qn,ql,B0,reduceIte,a8]
   refine qd (v := .int .i64 d8.Term) rfl ?_
   simp only [hg82,qc (g:=73),qr,zi,B0,reduceIte,a8]
   refine jx rfl (qt zb (qt zb (qt zb zm))) (ya (fun b hb=>decide_eq_true hb) d8.PTerm (-1) d8.Term _ rfl) ?_
   simp only [hg82,qc (g:=73),qr,jq,qb,kq,qw,zn,qa,qm,B0,reduceIte,a8]
   exact hN81 _ _ ⟨hS79,by rw [orF hg82]; simp only [B0,reduceIte,a8],f77⟩
 rintro fr83 h86 ⟨hS87,f84,f85⟩
 simp only [s6,t3]
 simp only [f84,qg,B0,reduceIte,a8]
 refine jf 8 (fun fr' h'=>Sep h' (geL h.length) ([])∧fr' 89 = .bool (((((decide (d8.Match≠0))||(!(zg d8.Prev 0 30)))||(!(zg d8.Commit 0 30))) ||
   (!(zg d8.PTerm (-1) d8.Term)))||(!((decide (d8.PTerm=(-1))) == (decide (d8.Prev=0)))))∧fr' 2 = .ref [.bool d8.Reply,.int .i64 d8.From,.int .i64 d8.To,
   .int .i64 d8.Term,.int .i64 d8.Prev,.int .i64 d8.PTerm,lst qh d8.Entry,.int .i64 d8.Commit,.int .i64 d8.Match] 0) (fun Q88 hN89=>?_) ?_
 ·simp only [s5,t4]
  simp only [qc (g:=81),B0,reduceIte,a8]
  refine zf (t:=((((decide (d8.Match≠0))||(!(zg d8.Prev 0 30)))||(!(zg d8.Commit 0 30)))||(!(zg d8.PTerm (-1) d8.Term))))
    (fun hg90=>?_) (fun hg90=>?_)
  ·simp only [hg90,qc (g:=81),zx,qw,qb,zo,qa,qm,B0,reduceIte,a8]
   exact hN89 _ _ ⟨hS87,by rw [orT hg90]; simp only [B0,reduceIte,a8],f85⟩
  ·simp only [hg90,qc (g:=81),qr,f85,qo,qb,o7,o8,o9,qn,ql,B0,reduceIte,a8]
   refine qd (v := .int .i64 d8.PTerm) rfl ?_
   simp only [hg90,qc (g:=81),qr,qx,qb,ku,f85,qo,o7,o8,o9,qn,ql,B0,reduceIte,
     a8]
   refine qd (v := .int .i64 d8.Prev) rfl ?_
   simp only [hg90,qc (g:=81),qr,qx,qb,ku,qkb,qjw,qw,zn,qa,qm,B0,reduceIte,a8]
   exact hN89 _ _ ⟨hS87,by rw [orF hg90]; simp only [B0,reduceIte,a8],f85⟩
 rintro fr91 h94 ⟨hS95,f92,f93⟩
 simp only [s6,t3]
 simp only [f92,qg,B0,reduceIte,a8]
 refine jf 5 (fun fr' h'=>Sep h' (geL h.length) ([])∧fr' 95 = .bool ((((((decide (d8.Match≠0))||(!(zg d8.Prev 0 30)))||(!(zg d8.Commit 0 30))) ||
   (!(zg d8.PTerm (-1) d8.Term)))||(!((decide (d8.PTerm=(-1))) == (decide (d8.Prev=0)))))||(decide ((1:Int) <
   (p9 d8.Entry:Int))))∧fr' 2 = .ref [.bool d8.Reply,.int .i64 d8.From,.int .i64 d8.To,.int .i64 d8.Term,.int .i64 d8.Prev,.int .i64 d8.PTerm,
   lst qh d8.Entry,.int .i64 d8.Commit,.int .i64 d8.Match] 0) (fun Q96 hN97=>?_) ?_
 ·simp only [s5,t4]
  simp only [qc (g:=90),B0,reduceIte,a8]
  refine zf (t:=(((((decide (d8.Match≠0))||(!(zg d8.Prev 0 30)))||(!(zg d8.Commit 0 30)))||(!(zg d8.PTerm (-1) d8.Term)))||(!((decide
    (d8.PTerm=(-1))) == (decide (d8.Prev=0)))))) (fun hg98=>?_) (fun hg98=>?_)
  ·simp only [hg98,qc (g:=90),zx,qw,qb,zo,qa,qm,B0,reduceIte,a8]
   exact hN97 _ _ ⟨hS95,by rw [orT hg98]; simp only [B0,reduceIte,a8],f93⟩
  ·simp only [hg98,qc (g:=90),qr,f93,qo,qb,o7,o8,o9,qn,ql,B0,reduceIte,a8]
   refine qd (v:=lst qh d8.Entry) rfl ?_
   simp only [hg98,qc (g:=90),qr,zq,qb,z7,qx,ww,qw,zn,qa,qm,B0,reduceIte,a8]
   exact hN97 _ _ ⟨hS95,by rw [orF hg98]; simp only [B0,reduceIte,a8],f93⟩
 rintro fr99 h102 ⟨hS103,f100,f101⟩
 simp only [s6,t3]
 simp only [qa,f100,q8,B0,reduceIte,a8]
 refine q9 (t:=((((((decide (d8.Match≠0))||(!(zg d8.Prev 0 30)))||(!(zg d8.Commit 0 30)))||(!(zg d8.PTerm (-1) d8.Term)))||(!((decide
   (d8.PTerm=(-1))) == (decide (d8.Prev=0)))))||(decide ((1:Int)<(p9 d8.Entry:Int))))) (fun hc104=>?_) (fun hc104=>?_)
 ·rw [iteT hc104] at hF
  simp only [qf,qe,qg,qa,zc,B0,reduceIte,a8]
  have he:=qj hF
  subst he
  simp only [zr,B0,reduceIte,a8]
  exact rfl
 rw [iteF hc104] at hF
 simp only [zd,q36,qf,qe,f101,qo,qb,o7,o8,o9,qn,ql,B0,reduceIte,a8]
 refine qd (v:=lst qh d8.Entry) rfl ?_
 obtain ⟨v105,hx106,hF107⟩:=qk hF
 simp only [qqn,f101,zi,B0,reduceIte,a8]
 refine jx rfl (qt jh (qt qj7 zm)) (qgo (fun b hb=>decide_eq_true hb) d8.Entry (g1:=100) (caps1:=[.ref [.bool d8.Reply,
   .int .i64 d8.From,.int .i64 d8.To,.int .i64 d8.Term,.int .i64 d8.Prev,.int .i64 d8.PTerm,lst qh d8.Entry,.int .i64 d8.Commit,
   .int .i64 d8.Match] 0]) rfl (fun a0=>some (u7 a0 d8)) (fun W h hW a0 r hr=>qln hW a0 d8 r hr) v105 hx106) ?_
 simp only [jq,qb,kq,qg,qa,zc,B0,reduceIte,a8]
 have he:=qj hF107
 subst he
 simp only [zr,B0,reduceIte,a8]
 exact rfl
theorem qmb {W:Nat→Bool}{h:Heap} (hW:∀ b,
  (geL h.length) b→W b=true) (m_0:Mail) (cap_0:Int) (r:Bool) (hF:u6 m_0 cap_0=some r) : Ret E W 81 [.agg [.bool m_0.Reply,.int .i64 m_0.From,
  .int .i64 m_0.To,.int .i64 m_0.Term,.int .i64 m_0.Prev,.int .i64 m_0.PTerm,lst qh m_0.Entry,.int .i64 m_0.Commit,.int .i64 m_0.Match],
  .ref (cI cap_0) 0] h (fun v h'=>cut h.length h' E.sz false 9 v=some (.bool r)):=by
 refine Ret.of (fn:=x81) rfl (Run.of ?_)
 unfold u6 at hF
 have zf0:zk [.agg [.bool m_0.Reply,.int .i64 m_0.From,.int .i64 m_0.To,.int .i64 m_0.Term,.int .i64 m_0.Prev,.int .i64 m_0.PTerm,lst qh m_0.Entry,
   .int .i64 m_0.Commit,.int .i64 m_0.Match],.ref (cI cap_0) 0] 0 = .agg [.bool m_0.Reply,.int .i64 m_0.From,.int .i64 m_0.To,.int .i64 m_0.Term,.int .i64 m_0.Prev,
   .int .i64 m_0.PTerm,lst qh m_0.Entry,.int .i64 m_0.Commit,.int .i64 m_0.Match]:=rfl
 have zf1:zk [.agg [.bool m_0.Reply,.int .i64 m_0.From,.int .i64 m_0.To,.int .i64 m_0.Term,.int .i64 m_0.Prev,.int .i64 m_0.PTerm,lst qh m_0.Entry,
   .int .i64 m_0.Commit,.int .i64 m_0.Match],.ref (cI cap_0) 0] 1 = .ref (cI cap_0) 0:=rfl
 generalize zk [.agg [.bool m_0.Reply,.int .i64 m_0.From,.int .i64 m_0.To,.int .i64 m_0.Term,.int .i64 m_0.Prev,.int .i64 m_0.PTerm,lst qh m_0.Entry,
   .int .i64 m_0.Commit,.int .i64 m_0.Match],.ref (cI cap_0) 0]=fr0 at zf0 zf1 ⊢
 have hS:Sep h (geL h.length) []:=a14 h
 simp only [x81,qf,qe,ym,zf0,B0,reduceIte,a8]
 refine ko (cs:=[.bool m_0.Reply,.int .i64 m_0.From,.int .i64 m_0.To,.int .i64 m_0.Term,.int .i64 m_0.Prev,.int .i64 m_0.PTerm,lst qh m_0.Entry,
   .int .i64 m_0.Commit,.int .i64 m_0.Match]) hS rfl rfl rfl (fun b1 h2 hS3=>?_)
 simp only [qg,qa,B0,reduceIte,a8]
 refine jc hS3 hW (by simp only [B0,reduceIte,a8]) (fun h5 hS6=>?_)
 simp only [z5,q3x,qf,qe,ql,B0,reduceIte,a8]
 refine qd (v := .agg [.bool m_0.Reply,.int .i64 m_0.From,.int .i64 m_0.To,.int .i64 m_0.Term,.int .i64 m_0.Prev,.int .i64 m_0.PTerm,lst qh m_0.Entry,
   .int .i64 m_0.Commit,.int .i64 m_0.Match]) rfl ?_
 simp only [zf1,ql,B0,reduceIte,a8]
 refine qd (v := .int .i64 cap_0) rfl ?_
 obtain ⟨v7,hx8,hF9⟩:=qk hF
 simp only [zi,B0,reduceIte,a8]
 refine jx rfl (qt (wk (qt qib (qt zb (qt zb (qt zb (qt zb (qt zb (qt jh (qt zb
   (qt zb zm)))))))))) (qt zb zm)) (qob (fun b hb=>decide_eq_true hb) m_0 cap_0 v7 hx8) ?_
 simp only [jq,qb,kq,qg,qa,zc,B0,reduceIte,a8]
 have he:=qj hF9
 subst he
 simp only [zr,B0,reduceIte,a8]
 exact rfl
theorem qgw {W:Nat→Bool}{h:Heap} (hW:∀ b,
  (geL h.length) b→W b=true) (d8:Raft) (r:Bool) (hF:qbj d8=some r) : Ret E W 49 [.agg [lst qs d8.Peers,
  lst qu d8.Mail]] h (fun v h'=>cut h.length h' E.sz false 9 v=some (.bool r)):=by
 refine Ret.of (fn:=x49) rfl (Run.of ?_)
 unfold qbj at hF
 have zf0:zk [.agg [lst qs d8.Peers,lst qu d8.Mail]] 0 = .agg [lst qs d8.Peers,lst qu d8.Mail]:=rfl
 generalize zk [.agg [lst qs d8.Peers,lst qu d8.Mail]]=fr0 at zf0 ⊢
 have hS:Sep h (geL h.length) []:=a14 h
 simp only [x49,qf,qe,ym,zf0,B0,reduceIte,a8]
 refine ko (cs:=[lst qs d8.Peers,lst qu d8.Mail]) hS rfl rfl rfl (fun b1 h2 hS3=>?_)
 simp only [qg,qa,B0,reduceIte,a8]
 refine jc hS3 hW (by simp only [B0,reduceIte,a8]) (fun h5 hS6=>?_)
 simp only [z5,qwd,qf,qe,qo,qb,o7,o8,o9,qn,ql,B0,reduceIte,a8]
 refine qd (v:=lst qs d8.Peers) rfl ?_
 simp only [zq,qb,z7,ji,B0,reduceIte,a8]
 refine z6 hS6 (fun b7 h8 hS9=>?_)
 simp only [zh,B0,reduceIte,a8]
 refine qy (us:=[.int .i64 (p9 d8.Peers:Int)]) rfl (cs':=[.int .i64 (p9 d8.Peers:Int)]) hS9 hW rfl rfl (nle rfl) rfl (fun h11 hS12=>?_)
 simp only [qa,B0,reduceIte,a8]
 refine jc hS12 hW (by simp only [B0,reduceIte,a8]) (fun h13 hS14=>?_)
 simp only [z5,qwg,qf,qe,ql,B0,reduceIte,a8]
 refine qd (v := .int .i64 (p9 d8.Peers:Int)) rfl ?_
 simp only [zi,B0,reduceIte,a8]
 refine jx rfl (qt zb (qt zb (qt zb zm))) (ya (fun b hb=>decide_eq_true hb) (p9 d8.Peers:Int) 1 5 _ rfl) ?_
 simp only [jq,qb,kq,qg,B0,reduceIte,a8]
 refine jf 5 (fun fr' h'=>Sep h' (geL h.length) ([])∧fr' 19 = .bool ((!(zg (p9 d8.Peers:Int) 1 5))||(decide ((20:Int) <
   (p9 d8.Mail:Int))))∧fr' 1 = .ref [lst qs d8.Peers,
   lst qu d8.Mail] 0∧fr' 3 = .ref [.int .i64 (p9 d8.Peers:Int)] 0) (fun Q15 hN16=>?_) ?_
 ·simp only [s5,t4]
  simp only [qc (g:=14),B0,reduceIte,a8]
  refine zf (t:=(!(zg (p9 d8.Peers:Int) 1 5))) (fun hg17=>?_) (fun hg17=>?_)
  ·simp only [hg17,qc (g:=14),zx,qw,qb,zo,qa,qm,B0,reduceIte,a8]
   exact hN16 _ _ ⟨hS14,by rw [orT hg17]; simp only [B0,reduceIte,a8],rfl,rfl⟩
  ·simp only [hg17,qc (g:=14),qr,qo,qb,o7,o8,o9,qn,ql,B0,reduceIte,a8]
   refine qd (v:=lst qu d8.Mail) rfl ?_
   simp only [hg17,qc (g:=14),qr,zq,qb,z7,qx,ww,qw,zn,qa,qm,B0,reduceIte,a8]
   exact hN16 _ _ ⟨hS14,by rw [orF hg17]; simp only [B0,reduceIte,a8],rfl,rfl⟩
 rintro fr18 h22 ⟨hS23,f19,f20,f21⟩
 simp only [s6,t3]
 simp only [qa,f19,q8,B0,reduceIte,a8]
 refine q9 (t:=((!(zg (p9 d8.Peers:Int) 1 5))||(decide ((20:Int)<(p9 d8.Mail:Int))))) (fun hc24=>?_) (fun hc24=>?_)
 ·rw [iteT hc24] at hF
  simp only [qf,qe,qg,qa,zc,B0,reduceIte,a8]
  have he:=qj hF
  subst he
  simp only [zr,B0,reduceIte,a8]
  exact rfl
 rw [iteF hc24] at hF
 simp only [zd,qwn,qf,qe,f20,qo,qb,o7,o8,o9,qn,ql,B0,reduceIte,a8]
 refine qd (v:=lst qs d8.Peers) rfl ?_
 simp only [zq,qb,z7,qg,qa,B0,reduceIte,a8]
 obtain ⟨oc27,hX29,hk30⟩:=kd hF
 simp only [q3o]
 refine yi (σ:=Unit) d8.Peers (fun i25 x26 _=>qd8 d8 i25 x26 ) (fun s fr' h'=>fr' 1 = .ref [lst qs d8.Peers,
   lst qu d8.Mail] 0∧fr' 3 = .ref [.int .i64 (p9 d8.Peers:Int)] 0∧fr' 21=lst qs d8.Peers∧Sep h' (geL h.length) ([])) hX29 ⟨f20,f21,rfl,
   hS23⟩ (by simp only [B0,reduceIte,a8]) (by simp only [B0,reduceIte,
   a8]) (fun _ _ _ h=>h) rfl rfl (fun _ _ _ _ h=>h) (fun _ _ _ _ h=>h) (fun _ _ _ _ h=>h) (by decide) ?_ ?_
 ·rintro i25 x26 _ fr39 h40 hx45 ⟨f42,f43,f44,hS41⟩ f46 f47 oc28 hF31 hr32 Q33 hN34 hB38 hK35 hR36 hE37
  unfold qd8 at hF31
  simp only [q7m,qf,qe,f44,f46,jj,B0,reduceIte,a8]
  refine qd (v := .ref (qs x26) 0) (yj hx45 rfl) ?_
  simp only [ql,B0,reduceIte,a8]
  refine qd (v := .agg [.int .i64 x26.Term,.bool x26.Leads,lst qh x26.Log,.int .i64 x26.Commit,lst cI x26.Match]) rfl ?_
  simp only [ji,B0,reduceIte,a8]
  refine z6 hS41 (fun b48 h49 hS50=>?_)
  simp only [zh,B0,reduceIte,a8]
  refine qy (us:=[.int .i64 x26.Term,.bool x26.Leads,lst qh x26.Log,.int .i64 x26.Commit,lst cI x26.Match]) rfl (cs':=[.int .i64 x26.Term,
    .bool x26.Leads,lst qh x26.Log,.int .i64 x26.Commit,lst cI x26.Match]) hS50 hW rfl rfl (nle rfl) rfl (fun h52 hS53=>?_)
  simp only [qa,B0,reduceIte,a8]
  refine jc hS53 hW (by simp only [B0,reduceIte,a8]) (fun h54 hS55=>?_)
  simp only [z5,q8o,qf,qe,qo,qb,o7,o8,o9,qn,ql,B0,reduceIte,a8]
  refine qd (v := .int .i64 x26.Term) rfl ?_
  simp only [zi,B0,reduceIte,a8]
  refine jx rfl (qt zb (qt zb (qt zb zm))) (ya (fun b hb=>decide_eq_true hb) x26.Term 0 100 _ rfl) ?_
  simp only [jq,qb,kq,qg,B0,reduceIte,a8]
  obtain ⟨v59,hx60,hF61⟩:=qk hF31
  refine jf 7 (fun fr' h'=>Sep h' (geL h.length) ([])∧fr' 38 = .bool v59∧fr' 1 = .ref [lst qs d8.Peers,
    lst qu d8.Mail] 0∧fr' 3 = .ref [.int .i64 (p9 d8.Peers:Int)] 0∧fr' 5 = .ref [.int .i64 x26.Term,.bool x26.Leads,lst qh x26.Log,
    .int .i64 x26.Commit,lst cI x26.Match] 0∧fr' 21=lst qs d8.Peers∧fr' 22 = .int .i64 (p9 d8.Peers:Int)∧fr' 23 = .int .i64 (i25:Int))
    (fun Q56 hN57=>?_) ?_
  ·simp only [s5,t4]
   simp only [qc (g:=31),B0,reduceIte,a8]
   refine zf (t:=(!(zg x26.Term 0 100))) (fun hg58=>?_) (fun hg58=>?_)
   ·rw [iteT hg58] at hx60
    simp only [hg58,qc (g:=31),zx,qw,qb,zo,qa,qm,B0,reduceIte,a8]
    have e62:=qj hx60
    exact hN57 _ _ ⟨hS55,by rw [←e62]; simp only [B0,reduceIte,a8],f42,f43,rfl,f44,f47,f46⟩
   ·rw [iteF hg58] at hx60
    simp only [hg58,qc (g:=31),qr,qo,qb,o7,o8,o9,qn,ql,B0,reduceIte,a8]
    refine qd (v:=lst qh x26.Log) rfl ?_
    simp only [hg58,qc (g:=31),qr,qo,qb,o7,o8,o9,qn,ql,B0,reduceIte,a8]
    refine qd (v := .int .i64 x26.Term) rfl ?_
    obtain ⟨v63,hx64,hF65⟩:=qk hx60
    simp only [hg58,qc (g:=31),qr,zi,B0,reduceIte,a8]
    refine jx rfl (qt jh (qt zb zm)) (qeu (fun b hb=>decide_eq_true hb) x26.Log x26.Term v63 hx64) ?_
    simp only [hg58,qc (g:=31),qr,jq,qb,kq,qw,zn,qa,qm,B0,reduceIte,a8]
    have e66:=qj hF65
    exact hN57 _ _ ⟨hS55,by rw [←e66]; simp only [B0,reduceIte,a8],f42,f43,rfl,f44,f47,f46⟩
  rintro fr67 h75 ⟨hS76,f68,f69,f70,f71,f72,f73,f74⟩
  simp only [s6,t3]
  simp only [f68,qg,B0,reduceIte,a8]
  refine jf 8 (fun fr' h'=>Sep h' (geL h.length) ([])∧fr' 47 = .bool (v59||(!(zg x26.Commit 0
    (p9 x26.Log:Int))))∧fr' 1 = .ref [lst qs d8.Peers,
    lst qu d8.Mail] 0∧fr' 3 = .ref [.int .i64 (p9 d8.Peers:Int)] 0∧fr' 5 = .ref [.int .i64 x26.Term,.bool x26.Leads,lst qh x26.Log,
    .int .i64 x26.Commit,lst cI x26.Match] 0∧fr' 21=lst qs d8.Peers∧fr' 22 = .int .i64 (p9 d8.Peers:Int)∧fr' 23 = .int .i64 (i25:Int))
    (fun Q77 hN78=>?_) ?_
  ·simp only [s5,t4]
   simp only [qc (g:=39),B0,reduceIte,a8]
   refine zf (t:=v59) (fun hg79=>?_) (fun hg79=>?_)
   ·simp only [hg79,qc (g:=39),zx,qw,qb,zo,qa,qm,B0,reduceIte,a8]
    exact hN78 _ _ ⟨hS76,by rw [orT hg79]; simp only [B0,reduceIte,a8],f69,f70,f71,f72,f73,f74⟩
   ·simp only [hg79,qc (g:=39),qr,f71,qo,qb,o7,o8,o9,qn,ql,B0,reduceIte,a8]
    refine qd (v := .int .i64 x26.Commit) rfl ?_
    simp only [hg79,qc (g:=39),qr,f71,qo,qb,o7,o8,o9,qn,ql,B0,reduceIte,a8]
    refine qd (v:=lst qh x26.Log) rfl ?_
    simp only [hg79,qc (g:=39),qr,zq,qb,z7,zi,B0,reduceIte,a8]
    refine jx rfl (qt zb (qt zb (qt zb zm))) (ya (fun b hb=>decide_eq_true hb) x26.Commit 0 (p9 x26.Log:Int) _ rfl) ?_
    simp only [hg79,qc (g:=39),qr,jq,qb,kq,qw,zn,qa,qm,B0,reduceIte,a8]
    exact hN78 _ _ ⟨hS76,by rw [orF hg79]; simp only [B0,reduceIte,a8],f69,f70,f71,f72,f73,f74⟩
  rintro fr80 h88 ⟨hS89,f81,f82,f83,f84,f85,f86,f87⟩
  simp only [s6,t3]
  simp only [f81,qg,B0,reduceIte,a8]
  refine jf 6 (fun fr' h'=>Sep h' (geL h.length) ([])∧fr' 54 = .bool ((v59||(!(zg x26.Commit 0 (p9 x26.Log:Int))))||(decide
    ((p9 x26.Match:Int)≠(p9 d8.Peers:Int))))∧fr' 1 = .ref [lst qs d8.Peers,
    lst qu d8.Mail] 0∧fr' 3 = .ref [.int .i64 (p9 d8.Peers:Int)] 0∧fr' 5 = .ref [.int .i64 x26.Term,.bool x26.Leads,lst qh x26.Log,
    .int .i64 x26.Commit,lst cI x26.Match] 0∧fr' 21=lst qs d8.Peers∧fr' 22 = .int .i64 (p9 d8.Peers:Int)∧fr' 23 = .int .i64 (i25:Int))
    (fun Q90 hN91=>?_) ?_
  ·simp only [s5,t4]
   simp only [qc (g:=48),B0,reduceIte,a8]
   refine zf (t:=(v59||(!(zg x26.Commit 0 (p9 x26.Log:Int))))) (fun hg92=>?_) (fun hg92=>?_)
   ·simp only [hg92,qc (g:=48),zx,qw,qb,zo,qa,qm,B0,reduceIte,a8]
    exact hN91 _ _ ⟨hS89,by rw [orT hg92]; simp only [B0,reduceIte,a8],f82,f83,f84,f85,f86,f87⟩
   ·simp only [hg92,qc (g:=48),qr,f84,qo,qb,o7,o8,o9,qn,ql,B0,reduceIte,a8]
    refine qd (v:=lst cI x26.Match) rfl ?_
    simp only [hg92,qc (g:=48),qr,zq,qb,z7,f83,ql,B0,reduceIte,a8]
    refine qd (v := .int .i64 (p9 d8.Peers:Int)) rfl ?_
    simp only [hg92,qc (g:=48),qr,qx,qb,wz,qw,zn,qa,qm,B0,reduceIte,a8]
    exact hN91 _ _ ⟨hS89,by rw [orF hg92]; simp only [B0,reduceIte,a8],f82,f83,f84,f85,f86,f87⟩
  rintro fr93 h101 ⟨hS102,f94,f95,f96,f97,f98,f99,f100⟩
  simp only [s6,t3]
  simp only [qa,f94,q8,B0,reduceIte,a8]
  refine q9 (t:=((v59||(!(zg x26.Commit 0 (p9 x26.Log:Int))))||(decide ((p9 x26.Match:Int)≠(p9 d8.Peers:Int)))))
    (fun hc103=>?_) (fun hc103=>?_)
  ·rw [iteT hc103] at hF61
   simp only [qf,qe,qg,qa,zc,B0,reduceIte,a8]
   have e104:=qj hF61
   subst e104
   have ho105:=hr32 _ rfl
   have hk106:=hk30
   rw [ho105] at hk106
   dsimp only [jnO] at hk106
   apply hR36
   have he:=qj hk106
   subst he
   simp only [zr,B0,reduceIte,a8]
   exact rfl
  rw [iteF hc103] at hF61
  simp only [zd,q28,qf,qe,f97,qo,qb,o7,o8,o9,qn,ql,B0,reduceIte,a8]
  refine qd (v:=lst cI x26.Match) rfl ?_
  simp only [zq,qb,z7,qg,qa,B0,reduceIte,a8]
  obtain ⟨oc109,hX111,hk112⟩:=kd hF61
  simp only [q2h]
  refine yi (σ:=Unit) x26.Match (fun i107 x108 _=>qck x26 i107 x108 ) (fun s fr' h'=>fr' 1 = .ref [lst qs d8.Peers,
    lst qu d8.Mail] 0∧fr' 3 = .ref [.int .i64 (p9 d8.Peers:Int)] 0∧fr' 5 = .ref [.int .i64 x26.Term,.bool x26.Leads,lst qh x26.Log,
    .int .i64 x26.Commit,lst cI x26.Match] 0∧fr' 21=lst qs d8.Peers∧fr' 22 = .int .i64 (p9 d8.Peers:Int)∧fr' 23 = .int .i64
    (i25:Int)∧fr' 56=lst cI x26.Match∧Sep h' (geL h.length) ([])) hX111 ⟨f95,f96,f97,f98,f99,f100,rfl,hS102⟩ (by simp only [B0,reduceIte,
    a8]) (by simp only [B0,reduceIte,a8]) (fun _ _ _ h=>h) rfl rfl (fun _ _ _ _ h=>h) (fun _ _ _ _ h=>h) (fun _ _ _ _ h=>h) (by decide) ?_ ?_
  ·rintro i107 x108 _ fr121 h122 hx131 ⟨f124,f125,f126,f127,f128,f129,f130,hS123⟩ f132 f133 oc110 hF113 hr114 Q115 hN116 hB120 hK117 hR118 hE119
   unfold qck at hF113
   simp only [q3r,qf,qe,f130,f132,jj,B0,reduceIte,a8]
   refine qd (v := .ref (cI x108) 0) (yj hx131 rfl) ?_
   simp only [ql,B0,reduceIte,a8]
   refine qd (v := .int .i64 x108) rfl ?_
   simp only [qg,qa,q7e,qf,qe,f126,qo,qb,o7,o8,o9,qn,ql,B0,reduceIte,a8]
   refine qd (v:=lst qh x26.Log) rfl ?_
   simp only [zq,qb,z7,zi,B0,reduceIte,a8]
   refine jx rfl (qt zb (qt zb (qt zb zm))) (ya (fun b hb=>decide_eq_true hb) x108 0 (p9 x26.Log:Int) _ rfl) ?_
   simp only [jq,qb,kq,qg,B0,reduceIte,a8]
   refine jf 8 (fun fr' h'=>Sep h' (geL h.length) ([])∧fr' 76 = .bool ((!(zg x108 0 (p9 x26.Log:Int)))||((!x26.Leads)&&(decide
     (x108≠0))))∧fr' 1 = .ref [lst qs d8.Peers,
     lst qu d8.Mail] 0∧fr' 3 = .ref [.int .i64 (p9 d8.Peers:Int)] 0∧fr' 5 = .ref [.int .i64 x26.Term,.bool x26.Leads,lst qh x26.Log,
     .int .i64 x26.Commit,lst cI x26.Match] 0∧fr' 21=lst qs d8.Peers∧fr' 22 = .int .i64 (p9 d8.Peers:Int)∧fr' 23 = .int .i64
     (i25:Int)∧fr' 56=lst cI x26.Match∧fr' 57 = .int .i64 (p9 x26.Match:Int)∧fr' 58 = .int .i64 (i107:Int)) (fun Q134 hN135=>?_) ?_
   ·simp only [s5,t4]
    simp only [qc (g:=68),B0,reduceIte,a8]
    refine zf (t:=(!(zg x108 0 (p9 x26.Log:Int)))) (fun hg136=>?_) (fun hg136=>?_)
    ·simp only [hg136,qc (g:=68),zx,qc (g:=72),qcs,qw,qb,zo,qa,qm,B0,reduceIte,a8]
     exact hN135 _ _ ⟨hS123,by rw [orT hg136]; simp only [B0,reduceIte,a8],f124,f125,f126,f127,f128,f129,f130,f133,f132⟩
    ·simp only [hg136,qc (g:=68),qr,f126,qo,qb,o7,o8,o9,qn,ql,B0,reduceIte,a8]
     refine qd (v := .bool x26.Leads) rfl ?_
     simp only [hg136,qc (g:=68),qr,jq,qb,kq,qg,B0,reduceIte,a8]
     refine jf 3 (fun fr' h'=>Sep h' (geL h.length) ([])∧fr' 75 = .bool ((!x26.Leads)&&(decide (x108≠0)))∧fr' 1 = .ref [lst qs d8.Peers,
       lst qu d8.Mail] 0∧fr' 3 = .ref [.int .i64 (p9 d8.Peers:Int)] 0∧fr' 5 = .ref [.int .i64 x26.Term,.bool x26.Leads,lst qh x26.Log,
       .int .i64 x26.Commit,lst cI x26.Match] 0∧fr' 21=lst qs d8.Peers∧fr' 22 = .int .i64 (p9 d8.Peers:Int)∧fr' 23 = .int .i64
       (i25:Int)∧fr' 56=lst cI x26.Match∧fr' 57 = .int .i64 (p9 x26.Match:Int)∧fr' 58 = .int .i64 (i107:Int)∧fr' 68 = .bool (!(zg x108 0
       (p9 x26.Log:Int)))) (fun Q137 hN138=>?_) ?_
     ·simp only [s5,t4]
      simp only [qc (g:=72),B0,reduceIte,a8]
      refine zf (t:=(!x26.Leads)) (fun hg139=>?_) (fun hg139=>?_)
      ·simp only [hg139,qc (g:=72),zu,qg,qx,qb,wz,hg136,qc (g:=68),qr,qw,zo,qa,
        qm,B0,reduceIte,a8]
       exact hN138 _ _ ⟨hS123,by rw [qat hg139]; simp only [B0,reduceIte,a8],f124,f125,f126,f127,f128,f129,f130,f133,f132,by simp only [hg136,B0,
         reduceIte,a8]⟩
      ·simp only [hg139,qc (g:=72),kj,hg136,qc (g:=68),qr,qw,qb,zn,qa,qm,B0,reduceIte,
        a8]
       exact hN138 _ _ ⟨hS123,by rw [qao hg139]; simp only [B0,reduceIte,a8],f124,f125,f126,f127,f128,f129,f130,f133,f132,by simp only [hg136,B0,
         reduceIte,a8]⟩
     rintro fr140 h152 ⟨hS153,f141,f142,f143,f144,f145,f146,f147,f148,f149,f150,f151⟩
     simp only [s6,t3]
     simp only [f151,hg136,qw,qb,zn,f141,qa,qm,B0,reduceIte,a8]
     exact hN135 _ _ ⟨hS153,by rw [orF hg136]; simp only [B0,reduceIte,a8],f142,f143,f144,f145,f146,f147,f148,f149,f150⟩
   rintro fr154 h165 ⟨hS166,f155,f156,f157,f158,f159,f160,f161,f162,f163,f164⟩
   simp only [s6,t3]
   simp only [qa,f155,q8,B0,reduceIte,a8]
   refine q9 (t:=((!(zg x108 0 (p9 x26.Log:Int)))||((!x26.Leads)&&(decide (x108≠0))))) (fun hc167=>?_) (fun hc167=>?_)
   ·rw [iteT hc167] at hF113
    simp only [qf,qe,qg,qa,zc,B0,reduceIte,a8]
    have e168:=qj hF113
    subst e168
    have ho169:=hr114 _ rfl
    have hk170:=hk112
    rw [ho169] at hk170
    dsimp only [jnO] at hk170
    apply hR118
    have e171:=qj hk170
    subst e171
    have ho172:=hr32 _ rfl
    have hk173:=hk30
    rw [ho172] at hk173
    dsimp only [jnO] at hk173
    apply hR36
    have he:=qj hk173
    subst he
    simp only [zr,B0,reduceIte,a8]
    exact rfl
   rw [iteF hc167] at hF113
   simp only [zd,qm,B0,reduceIte,a8]
   have e174:=qj hF113
   exact hN116 _ _ _ e174.symm ⟨f156,f157,f158,f159,f160,f161,f162,hS166⟩ (f164) (f163)
  rintro _ fr176 h177 rfl ⟨f179,f180,f181,f182,f183,f184,f185,hS178⟩
  dsimp only [jnO] at hk112
  unfold qiy at hk112
  simp only [qm,B0,reduceIte,a8]
  have e186:=qj hk112
  exact hN34 _ _ _ e186.symm ⟨f179,f180,f182,hS178⟩ (f184) (f183)
 rintro _ fr189 h190 rfl ⟨f192,f193,f194,hS191⟩
 dsimp only [jnO] at hk30
 unfold qf8 at hk30
 simp only [qs8,qf,qe,f192,qo,qb,o7,o8,o9,qn,ql,B0,reduceIte,a8]
 refine qd (v:=lst qu d8.Mail) rfl ?_
 obtain ⟨v195,hx196,hF197⟩:=qk hk30
 simp only [qqn,f193,zi,B0,reduceIte,a8]
 refine jx rfl (qt jh (qt qj7 zm)) (qgz (fun b hb=>decide_eq_true hb) d8.Mail (g1:=81) (caps1:=[.ref [.int .i64
   (p9 d8.Peers:Int)] 0]) rfl (fun a0=>u6 a0 (p9 d8.Peers:Int)) (fun W h hW a0 r hr=>qmb hW a0
   (p9 d8.Peers:Int) r hr) v195 hx196) ?_
 simp only [jq,qb,kq,qg,qa,zc,B0,reduceIte,a8]
 have he:=qj hF197
 subst he
 simp only [zr,B0,reduceIte,a8]
 exact rfl
end Go.Proofs.Ytanblnjomhgphaa.X
