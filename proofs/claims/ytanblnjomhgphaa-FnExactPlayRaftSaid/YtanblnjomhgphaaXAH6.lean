/- The functions' code comes to what the plain functions say (6). -/
import Derived.Test.YtanblnjomhgphaaXAH5
open Int renaming tmod→a1l
open Go.IntKind renaming wrap→l9
open List renaming length→o6,set_set→a3y
open Nat renaming add_zero→n9,reduceAdd→n7,reduceEqDiff→a8,zero_add→n8
open Go.Proofs.Ytanblnjomhgphaa.X.Sep renaming m1→s9,m2→o8,nil→a1x
open Go.Proofs.Ytanblnjomhgphaa.X.SlF renaming ia→a2v,isrow→a1w,plen→a1o
open Go.Proofs.Ytanblnjomhgphaa.X.SlG renaming ia→a24
set_option linter.unusedVariables false
set_option linter.unusedSimpArgs false
set_option maxRecDepth 100000
set_option maxHeartbeats 1000000
namespace Go.Proofs.Ytanblnjomhgphaa.X
open Go
theorem qmc {W:Nat→Bool}{h:Heap} (hW:∀ b,
  (geL h.length) b→W b=true) (k:Nat) (d6:List Peer) (d9:List Peer) (r:Bool) (hF:qc7 k d6 d9=some r) : Ret E W 53 [lst ze d6,
  lst ze d9] h (fun v h'=>cut h.length h' E.sz false 9 v=some (.bool r)):=by
 refine Ret.of (fn:=x53) rfl (Run.of ?_)
 unfold qc7 at hF
 have zf0:zf [lst ze d6,lst ze d9] 0=lst ze d6:=rfl
 have zf1:zf [lst ze d6,lst ze d9] 1=lst ze d9:=rfl
 generalize zf [lst ze d6,lst ze d9]=fr0 at zf0 zf1 ⊢
 have hS:Sep h (geL h.length) []:=a1x h
 simp only [x53,qd,qc,qe,qa,q6b,zf0,zr,qb,ja,zf1,qq,ya,qv,B0,reduceIte,a8]
 refine qs (t:=(decide ((o6 d6:Int)≠(o6 d9:Int)))) (fun hc1=>?_) (fun hc1=>?_)
 ·rw [iteT hc1] at hF
  simp only [qd,qc,qe,qa,qx,B0,reduceIte,a8]
  have he:=qg hF
  subst he
  simp only [q9,B0,reduceIte,a8]
  exact rfl
 rw [iteF hc1] at hF
 simp only [qw,q31,qd,qc,qe,qa,B0,reduceIte,a8]
 obtain ⟨oc6,hX8,hk9⟩:=jz hF
 simp only [q7q]
 refine wg (σ:=Int) (fun s41=>qbb k d6 d9 s41) (fun s fr' h'=>fr' 0=lst ze d6∧fr' 1=lst ze d9∧fr' 5 = .int .i64 s∧Sep h'
   (geL h.length) ([])) hX8 ⟨zf0,zf1,rfl,hS⟩ (fun _ _ _ h=>h) ?_ ?_
 ·rintro s3 fr18 h19 ⟨f21,f22,f23,hS20⟩ oc7 hF10 hr11 Q12 hN13 hK14 hR15 hE16
  unfold qbb at hF10
  simp only [q8h,qd,qc,f23,qe,f21,zr,qb,ja,qq,yg,qa,qv,B0,reduceIte,a8]
  refine qs (t:=(decide (s3<(o6 d6:Int)))) (fun hc25=>?_) (fun hc25=>?_)
  ·rw [iteT hc25] at hF10
   obtain ⟨x26,hx27,hF28⟩:=qi hF10
   simp only [qw,q43,qd,j5,q3g,z9,f21,zx,qh,f23,kz,B0,reduceIte,a8]
   refine qo (v := .ref (ze x26) 0) (j9 hx27 rfl) ?_
   simp only [zh,B0,reduceIte,a8]
   refine qo (v := .agg [.int .i64 x26.Term,.bool x26.Leads,lst qt x26.Log,.int .i64 x26.Commit,lst cI x26.Match]) rfl ?_
   obtain ⟨x29,hx30,hF31⟩:=qi hF28
   simp only [f22,zx,qh,f23,kz,B0,reduceIte,a8]
   refine qo (v := .ref (ze x29) 0) (j9 hx30 rfl) ?_
   simp only [zh,B0,reduceIte,a8]
   refine qo (v := .agg [.int .i64 x29.Term,.bool x29.Leads,lst qt x29.Log,.int .i64 x29.Commit,lst cI x29.Match]) rfl ?_
   obtain ⟨v32,hx33,hF34⟩:=qi hF31
   simp only [wm,B0,reduceIte,a8]
   refine qdd rfl (qp (yf (qp zg (qp qei (qp jo (qp zg (qp jo zm)))))) (qp (yf (qp zg
     (qp qei (qp jo (qp zg (qp jo zm)))))) zm)) (qnx (fun b hb=>decide_eq_true hb) k x26 x29 v32 hx33) ?_
   simp only [qfw,qh,yw,za,qv,B0,reduceIte,a8]
   refine qs (t:=(!v32)) (fun hc35=>?_) (fun hc35=>?_)
   ·rw [iteT hc35] at hF34
    simp only [qd,qc,qe,qa,qx,B0,reduceIte,a8]
    have e36:=qg hF34
    subst e36
    have ho37:=hr11 _ rfl
    have hk38:=hk9
    rw [ho37] at hk38
    dsimp only [jnO] at hk38
    apply hR15
    have he:=qg hk38
    subst he
    simp only [q9,B0,reduceIte,a8]
    exact rfl
   rw [iteF hc35] at hF34
   simp only [qw,kg,qc,f23,qe,qq,qb,j8,qa,qr,B0,reduceIte,a8]
   have e39:=qg hF34
   exact hN13 _ _ _ e39.symm ⟨f21,f22,rfl,hS20⟩
  rw [iteF hc25] at hF10
  simp only [yn,yl,y8,B0,reduceIte,a8]
  have e40:=qg hF10
  exact hK14 _ _ _ e40.symm ⟨f21,f22,f23,hS20⟩
 rintro s42 fr43 h44 rfl ⟨f46,f47,f48,hS45⟩
 dsimp only [jnO] at hk9
 unfold qho at hk9
 simp only [qd,qc,qe,qa,qx,B0,reduceIte,a8]
 have he:=qg hk9
 subst he
 simp only [q9,B0,reduceIte,a8]
 exact rfl
theorem qns {W:Nat→Bool}{h:Heap} (hW:∀ b,
  (geL h.length) b→W b=true) (k:Nat) (d6:Mail) (d9:Mail) (r:Bool) (hF:qdx k d6 d9=some r) : Ret E W 84 [.agg [.bool d6.Reply,.int .i64 d6.From,
  .int .i64 d6.To,.int .i64 d6.Term,.int .i64 d6.Prev,.int .i64 d6.PTerm,lst qt d6.Entry,.int .i64 d6.Commit,.int .i64 d6.Match],.agg [.bool d9.Reply,
  .int .i64 d9.From,.int .i64 d9.To,.int .i64 d9.Term,.int .i64 d9.Prev,.int .i64 d9.PTerm,lst qt d9.Entry,.int .i64 d9.Commit,
  .int .i64 d9.Match]] h (fun v h'=>cut h.length h' E.sz false 9 v=some (.bool r)):=by
 refine Ret.of (fn:=x84) rfl (Run.of ?_)
 unfold qdx at hF
 have zf0:zf [.agg [.bool d6.Reply,.int .i64 d6.From,.int .i64 d6.To,.int .i64 d6.Term,.int .i64 d6.Prev,.int .i64 d6.PTerm,lst qt d6.Entry,
   .int .i64 d6.Commit,.int .i64 d6.Match],.agg [.bool d9.Reply,.int .i64 d9.From,.int .i64 d9.To,.int .i64 d9.Term,.int .i64 d9.Prev,.int .i64 d9.PTerm,
   lst qt d9.Entry,.int .i64 d9.Commit,.int .i64 d9.Match]] 0 = .agg [.bool d6.Reply,.int .i64 d6.From,.int .i64 d6.To,.int .i64 d6.Term,
   .int .i64 d6.Prev,.int .i64 d6.PTerm,lst qt d6.Entry,.int .i64 d6.Commit,.int .i64 d6.Match]:=rfl
 have zf1:zf [.agg [.bool d6.Reply,.int .i64 d6.From,.int .i64 d6.To,.int .i64 d6.Term,.int .i64 d6.Prev,.int .i64 d6.PTerm,lst qt d6.Entry,
   .int .i64 d6.Commit,.int .i64 d6.Match],.agg [.bool d9.Reply,.int .i64 d9.From,.int .i64 d9.To,.int .i64 d9.Term,.int .i64 d9.Prev,.int .i64 d9.PTerm,
   lst qt d9.Entry,.int .i64 d9.Commit,.int .i64 d9.Match]] 1 = .agg [.bool d9.Reply,.int .i64 d9.From,.int .i64 d9.To,.int .i64 d9.Term,
   .int .i64 d9.Prev,.int .i64 d9.PTerm,lst qt d9.Entry,.int .i64 d9.Commit,.int .i64 d9.Match]:=rfl
 generalize zf [.agg [.bool d6.Reply,.int .i64 d6.From,.int .i64 d6.To,.int .i64 d6.Term,.int .i64 d6.Prev,.int .i64 d6.PTerm,lst qt d6.Entry,
   .int .i64 d6.Commit,.int .i64 d6.Match],.agg [.bool d9.Reply,.int .i64 d9.From,.int .i64 d9.To,.int .i64 d9.Term,.int .i64 d9.Prev,.int .i64 d9.PTerm,
   lst qt d9.Entry,.int .i64 d9.Commit,.int .i64 d9.Match]]=fr0 at zf0 zf1 ⊢
 have hS:Sep h (geL h.length) []:=a1x h
 simp only [x84,qd,qc,kt,zf0,B0,reduceIte,a8]
 refine j0 (cs:=[.bool d6.Reply,.int .i64 d6.From,.int .i64 d6.To,.int .i64 d6.Term,.int .i64 d6.Prev,.int .i64 d6.PTerm,lst qt d6.Entry,
   .int .i64 d6.Commit,.int .i64 d6.Match]) hS rfl rfl rfl (fun b1 h2 hS3=>?_)
 simp only [kt,zf1,B0,reduceIte,a8]
 refine j0 (cs:=[.bool d9.Reply,.int .i64 d9.From,.int .i64 d9.To,.int .i64 d9.Term,.int .i64 d9.Prev,.int .i64 d9.PTerm,lst qt d9.Entry,
   .int .i64 d9.Commit,.int .i64 d9.Match]) hS3 rfl rfl rfl (fun b5 h6 hS7=>?_)
 simp only [qe,qa,B0,reduceIte,a8]
 refine z8 (s9 hS7) hW (by simp only [B0,reduceIte,a8]) (fun h9 hS10=>?_)
 refine z8 hS10 hW (by simp only [B0,reduceIte,a8]) (fun h11 hS12=>?_)
 simp only [z7,q7k,qd,qc,ql,qb,n7,n8,n9,qn,qj,B0,reduceIte,a8]
 refine qf (v := .bool d6.Reply) rfl ?_
 simp only [ql,qb,n7,n8,n9,qn,qj,B0,reduceIte,a8]
 refine qf (v := .bool d9.Reply) rfl ?_
 simp only [qej,qb,qe0,qa,qv,B0,reduceIte,a8]
 refine qs (t:=(!(d6.Reply == d9.Reply))) (fun hc13=>?_) (fun hc13=>?_)
 ·rw [iteT hc13] at hF
  simp only [qd,qc,qe,qa,qx,B0,reduceIte,a8]
  have he:=qg hF
  subst he
  simp only [q9,B0,reduceIte,a8]
  exact rfl
 rw [iteF hc13] at hF
 simp only [qw,q8i,qd,qc,ql,qb,n7,n8,n9,qn,qj,B0,reduceIte,a8]
 refine qf (v := .int .i64 d6.From) rfl ?_
 simp only [ql,qb,n7,n8,n9,qn,qj,B0,reduceIte,a8]
 refine qf (v := .int .i64 d9.From) rfl ?_
 simp only [qq,qb,ya,qa,qv,B0,reduceIte,a8]
 refine qs (t:=(decide (d6.From≠d9.From))) (fun hc14=>?_) (fun hc14=>?_)
 ·rw [iteT hc14] at hF
  simp only [qd,qc,qe,qa,qx,B0,reduceIte,a8]
  have he:=qg hF
  subst he
  simp only [q9,B0,reduceIte,a8]
  exact rfl
 rw [iteF hc14] at hF
 simp only [qw,q58,qd,qc,ql,qb,n7,n8,n9,qn,qj,B0,reduceIte,a8]
 refine qf (v := .int .i64 d6.To) rfl ?_
 simp only [ql,qb,n7,n8,n9,qn,qj,B0,reduceIte,a8]
 refine qf (v := .int .i64 d9.To) rfl ?_
 simp only [qq,qb,ya,qa,qv,B0,reduceIte,a8]
 refine qs (t:=(decide (d6.To≠d9.To))) (fun hc15=>?_) (fun hc15=>?_)
 ·rw [iteT hc15] at hF
  simp only [qd,qc,qe,qa,qx,B0,reduceIte,a8]
  have he:=qg hF
  subst he
  simp only [q9,B0,reduceIte,a8]
  exact rfl
 rw [iteF hc15] at hF
 simp only [qw,q4d,qd,qc,ql,qb,n7,n8,n9,qn,qj,B0,reduceIte,a8]
 refine qf (v := .int .i64 d6.Term) rfl ?_
 simp only [ql,qb,n7,n8,n9,qn,qj,B0,reduceIte,a8]
 refine qf (v := .int .i64 d9.Term) rfl ?_
 simp only [qq,qb,ya,qa,qv,B0,reduceIte,a8]
 refine qs (t:=(decide (d6.Term≠d9.Term))) (fun hc16=>?_) (fun hc16=>?_)
 ·rw [iteT hc16] at hF
  simp only [qd,qc,qe,qa,qx,B0,reduceIte,a8]
  have he:=qg hF
  subst he
  simp only [q9,B0,reduceIte,a8]
  exact rfl
 rw [iteF hc16] at hF
 simp only [qw,q50,qd,qc,ql,qb,n7,n8,n9,qn,qj,B0,reduceIte,a8]
 refine qf (v := .int .i64 d6.Prev) rfl ?_
 simp only [ql,qb,n7,n8,n9,qn,qj,B0,reduceIte,a8]
 refine qf (v := .int .i64 d9.Prev) rfl ?_
 simp only [qq,qb,ya,qa,qv,B0,reduceIte,a8]
 refine qs (t:=(decide (d6.Prev≠d9.Prev))) (fun hc17=>?_) (fun hc17=>?_)
 ·rw [iteT hc17] at hF
  simp only [qd,qc,qe,qa,qx,B0,reduceIte,a8]
  have he:=qg hF
  subst he
  simp only [q9,B0,reduceIte,a8]
  exact rfl
 rw [iteF hc17] at hF
 simp only [qw,q81,qd,qc,ql,qb,n7,n8,n9,qn,qj,B0,reduceIte,a8]
 refine qf (v := .int .i64 d6.PTerm) rfl ?_
 simp only [ql,qb,n7,n8,n9,qn,qj,B0,reduceIte,a8]
 refine qf (v := .int .i64 d9.PTerm) rfl ?_
 simp only [qq,qb,ya,qa,qv,B0,reduceIte,a8]
 refine qs (t:=(decide (d6.PTerm≠d9.PTerm))) (fun hc18=>?_) (fun hc18=>?_)
 ·rw [iteT hc18] at hF
  simp only [qd,qc,qe,qa,qx,B0,reduceIte,a8]
  have he:=qg hF
  subst he
  simp only [q9,B0,reduceIte,a8]
  exact rfl
 rw [iteF hc18] at hF
 simp only [qw,q5e,qd,qc,ql,qb,n7,n8,n9,qn,qj,B0,reduceIte,a8]
 refine qf (v:=lst qt d6.Entry) rfl ?_
 simp only [ql,qb,n7,n8,n9,qn,qj,B0,reduceIte,a8]
 refine qf (v:=lst qt d9.Entry) rfl ?_
 obtain ⟨v19,hx20,hF21⟩:=qi hF
 simp only [zp,B0,reduceIte,a8]
 refine kh rfl (qp jo (qp jo zm)) (qhu (fun b hb=>decide_eq_true hb) k d6.Entry d9.Entry v19 hx20) ?_
 simp only [yk,qb,yw,qa,qv,B0,reduceIte,a8]
 refine qs (t:=(!v19)) (fun hc22=>?_) (fun hc22=>?_)
 ·rw [iteT hc22] at hF21
  simp only [qd,qc,qe,qa,qx,B0,reduceIte,a8]
  have he:=qg hF21
  subst he
  simp only [q9,B0,reduceIte,a8]
  exact rfl
 rw [iteF hc22] at hF21
 simp only [qw,q1s,qd,qc,ql,qb,n7,n8,n9,qn,qj,B0,reduceIte,a8]
 refine qf (v := .int .i64 d6.Commit) rfl ?_
 simp only [ql,qb,n7,n8,n9,qn,qj,B0,reduceIte,a8]
 refine qf (v := .int .i64 d9.Commit) rfl ?_
 simp only [qq,qb,ya,qa,qv,B0,reduceIte,a8]
 refine qs (t:=(decide (d6.Commit≠d9.Commit))) (fun hc23=>?_) (fun hc23=>?_)
 ·rw [iteT hc23] at hF21
  simp only [qd,qc,qe,qa,qx,B0,reduceIte,a8]
  have he:=qg hF21
  subst he
  simp only [q9,B0,reduceIte,a8]
  exact rfl
 rw [iteF hc23] at hF21
 simp only [qw,q5x,qd,qc,ql,qb,n7,n8,n9,qn,qj,B0,reduceIte,a8]
 refine qf (v := .int .i64 d6.Match) rfl ?_
 simp only [ql,qb,n7,n8,n9,qn,qj,B0,reduceIte,a8]
 refine qf (v := .int .i64 d9.Match) rfl ?_
 simp only [qq,qb,ya,qa,qv,B0,reduceIte,a8]
 refine qs (t:=(decide (d6.Match≠d9.Match))) (fun hc24=>?_) (fun hc24=>?_)
 ·rw [iteT hc24] at hF21
  simp only [qd,qc,qe,qa,qx,B0,reduceIte,a8]
  have he:=qg hF21
  subst he
  simp only [q9,B0,reduceIte,a8]
  exact rfl
 rw [iteF hc24] at hF21
 simp only [qw,qd,qc,qe,qa,qx,B0,reduceIte,a8]
 have he:=qg hF21
 subst he
 simp only [q9,B0,reduceIte,a8]
 exact rfl
theorem qmq {W:Nat→Bool}{h:Heap} (hW:∀ b,
  (geL h.length) b→W b=true) (k:Nat) (d6:List Mail) (d9:List Mail) (r:Bool) (hF:qc8 k d6 d9=some r) : Ret E W 54 [lst zc d6,
  lst zc d9] h (fun v h'=>cut h.length h' E.sz false 9 v=some (.bool r)):=by
 refine Ret.of (fn:=x54) rfl (Run.of ?_)
 unfold qc8 at hF
 have zf0:zf [lst zc d6,lst zc d9] 0=lst zc d6:=rfl
 have zf1:zf [lst zc d6,lst zc d9] 1=lst zc d9:=rfl
 generalize zf [lst zc d6,lst zc d9]=fr0 at zf0 zf1 ⊢
 have hS:Sep h (geL h.length) []:=a1x h
 simp only [x54,qd,qc,qe,qa,q4k,zf0,zr,qb,ja,zf1,qq,ya,qv,B0,reduceIte,a8]
 refine qs (t:=(decide ((o6 d6:Int)≠(o6 d9:Int)))) (fun hc1=>?_) (fun hc1=>?_)
 ·rw [iteT hc1] at hF
  simp only [qd,qc,qe,qa,qx,B0,reduceIte,a8]
  have he:=qg hF
  subst he
  simp only [q9,B0,reduceIte,a8]
  exact rfl
 rw [iteF hc1] at hF
 simp only [qw,q3o,qd,qc,qe,qa,B0,reduceIte,a8]
 obtain ⟨oc6,hX8,hk9⟩:=jz hF
 simp only [q8j]
 refine wg (σ:=Int) (fun s41=>qa9 k d6 d9 s41) (fun s fr' h'=>fr' 0=lst zc d6∧fr' 1=lst zc d9∧fr' 5 = .int .i64 s∧Sep h'
   (geL h.length) ([])) hX8 ⟨zf0,zf1,rfl,hS⟩ (fun _ _ _ h=>h) ?_ ?_
 ·rintro s3 fr18 h19 ⟨f21,f22,f23,hS20⟩ oc7 hF10 hr11 Q12 hN13 hK14 hR15 hE16
  unfold qa9 at hF10
  simp only [q86,qd,qc,f23,qe,f21,zr,qb,ja,qq,yg,qa,qv,B0,reduceIte,a8]
  refine qs (t:=(decide (s3<(o6 d6:Int)))) (fun hc25=>?_) (fun hc25=>?_)
  ·rw [iteT hc25] at hF10
   obtain ⟨x26,hx27,hF28⟩:=qi hF10
   simp only [qw,q2l,qd,j5,q60,z9,f21,zx,qh,f23,kz,B0,reduceIte,a8]
   refine qo (v := .ref (zc x26) 0) (j9 hx27 rfl) ?_
   simp only [zh,B0,reduceIte,a8]
   refine qo (v := .agg [.bool x26.Reply,.int .i64 x26.From,.int .i64 x26.To,.int .i64 x26.Term,.int .i64 x26.Prev,.int .i64 x26.PTerm,lst qt x26.Entry,
     .int .i64 x26.Commit,.int .i64 x26.Match]) rfl ?_
   obtain ⟨x29,hx30,hF31⟩:=qi hF28
   simp only [f22,zx,qh,f23,kz,B0,reduceIte,a8]
   refine qo (v := .ref (zc x29) 0) (j9 hx30 rfl) ?_
   simp only [zh,B0,reduceIte,a8]
   refine qo (v := .agg [.bool x29.Reply,.int .i64 x29.From,.int .i64 x29.To,.int .i64 x29.Term,.int .i64 x29.Prev,.int .i64 x29.PTerm,lst qt x29.Entry,
     .int .i64 x29.Commit,.int .i64 x29.Match]) rfl ?_
   obtain ⟨v32,hx33,hF34⟩:=qi hF31
   simp only [wm,B0,reduceIte,a8]
   refine qdd rfl (qp (yf (qp qei (qp zg (qp zg (qp zg (qp zg (qp zg (qp jo (qp zg
     (qp zg zm)))))))))) (qp (yf (qp qei (qp zg (qp zg (qp zg (qp zg (qp zg (qp jo
     (qp zg (qp zg zm)))))))))) zm)) (qns (fun b hb=>decide_eq_true hb) k x26 x29 v32 hx33) ?_
   simp only [qfw,qh,yw,za,qv,B0,reduceIte,a8]
   refine qs (t:=(!v32)) (fun hc35=>?_) (fun hc35=>?_)
   ·rw [iteT hc35] at hF34
    simp only [qd,qc,qe,qa,qx,B0,reduceIte,a8]
    have e36:=qg hF34
    subst e36
    have ho37:=hr11 _ rfl
    have hk38:=hk9
    rw [ho37] at hk38
    dsimp only [jnO] at hk38
    apply hR15
    have he:=qg hk38
    subst he
    simp only [q9,B0,reduceIte,a8]
    exact rfl
   rw [iteF hc35] at hF34
   simp only [qw,kg,qc,f23,qe,qq,qb,j8,qa,qr,B0,reduceIte,a8]
   have e39:=qg hF34
   exact hN13 _ _ _ e39.symm ⟨f21,f22,rfl,hS20⟩
  rw [iteF hc25] at hF10
  simp only [yn,yl,y8,B0,reduceIte,a8]
  have e40:=qg hF10
  exact hK14 _ _ _ e40.symm ⟨f21,f22,f23,hS20⟩
 rintro s42 fr43 h44 rfl ⟨f46,f47,f48,hS45⟩
 dsimp only [jnO] at hk9
 unfold qhn at hk9
 simp only [qd,qc,qe,qa,qx,B0,reduceIte,a8]
 have he:=qg hk9
 subst he
 simp only [q9,B0,reduceIte,a8]
 exact rfl
theorem qgb {W:Nat→Bool}{h:Heap} (hW:∀ b,
  (geL h.length) b→W b=true) (k:Nat) (d6:Raft) (d9:Raft) (r:Bool) (hF:qbi k d6 d9=some r) : Ret E W 18 [.agg [lst ze d6.Peers,
  lst zc d6.Mail],.agg [lst ze d9.Peers,lst zc d9.Mail]] h (fun v h'=>cut h.length h' E.sz false 9 v=some (.bool r)):=by
 refine Ret.of (fn:=x18) rfl (Run.of ?_)
 unfold qbi at hF
 have zf0:zf [.agg [lst ze d6.Peers,lst zc d6.Mail],.agg [lst ze d9.Peers,lst zc d9.Mail]] 0 = .agg [lst ze d6.Peers,
   lst zc d6.Mail]:=rfl
 have zf1:zf [.agg [lst ze d6.Peers,lst zc d6.Mail],.agg [lst ze d9.Peers,lst zc d9.Mail]] 1 = .agg [lst ze d9.Peers,
   lst zc d9.Mail]:=rfl
 generalize zf [.agg [lst ze d6.Peers,lst zc d6.Mail],.agg [lst ze d9.Peers,lst zc d9.Mail]]=fr0 at zf0 zf1 ⊢
 have hS:Sep h (geL h.length) []:=a1x h
 simp only [x18,qd,qc,kt,zf0,B0,reduceIte,a8]
 refine j0 (cs:=[lst ze d6.Peers,lst zc d6.Mail]) hS rfl rfl rfl (fun b1 h2 hS3=>?_)
 simp only [kt,zf1,B0,reduceIte,a8]
 refine j0 (cs:=[lst ze d9.Peers,lst zc d9.Mail]) hS3 rfl rfl rfl (fun b5 h6 hS7=>?_)
 simp only [qe,qa,B0,reduceIte,a8]
 refine z8 (s9 hS7) hW (by simp only [B0,reduceIte,a8]) (fun h9 hS10=>?_)
 refine z8 hS10 hW (by simp only [B0,reduceIte,a8]) (fun h11 hS12=>?_)
 simp only [z7,q69,qd,qc,ql,qb,n7,n8,n9,qn,qj,B0,reduceIte,a8]
 refine qf (v:=lst ze d6.Peers) rfl ?_
 simp only [ql,qb,n7,n8,n9,qn,qj,B0,reduceIte,a8]
 refine qf (v:=lst ze d9.Peers) rfl ?_
 obtain ⟨v13,hx14,hF15⟩:=qi hF
 simp only [zp,B0,reduceIte,a8]
 refine kh rfl (qp jo (qp jo zm)) (qmc (fun b hb=>decide_eq_true hb) k d6.Peers d9.Peers v13 hx14) ?_
 simp only [yk,qb,yw,qa,qv,B0,reduceIte,a8]
 refine qs (t:=(!v13)) (fun hc16=>?_) (fun hc16=>?_)
 ·rw [iteT hc16] at hF15
  simp only [qd,qc,qe,qa,qx,B0,reduceIte,a8]
  have he:=qg hF15
  subst he
  simp only [q9,B0,reduceIte,a8]
  exact rfl
 rw [iteF hc16] at hF15
 simp only [qw,q8q,qd,qc,ql,qb,n7,n8,n9,qn,qj,B0,reduceIte,a8]
 refine qf (v:=lst zc d6.Mail) rfl ?_
 simp only [ql,qb,n7,n8,n9,qn,qj,B0,reduceIte,a8]
 refine qf (v:=lst zc d9.Mail) rfl ?_
 obtain ⟨v17,hx18,hF19⟩:=qi hF15
 simp only [zp,B0,reduceIte,a8]
 refine kh rfl (qp jo (qp jo zm)) (qmq (fun b hb=>decide_eq_true hb) k d6.Mail d9.Mail v17 hx18) ?_
 simp only [yk,qb,yw,qa,qv,B0,reduceIte,a8]
 refine qs (t:=(!v17)) (fun hc20=>?_) (fun hc20=>?_)
 ·rw [iteT hc20] at hF19
  simp only [qd,qc,qe,qa,qx,B0,reduceIte,a8]
  have he:=qg hF19
  subst he
  simp only [q9,B0,reduceIte,a8]
  exact rfl
 rw [iteF hc20] at hF19
 simp only [qw,qd,qc,qe,qa,qx,B0,reduceIte,a8]
 have he:=qg hF19
 subst he
 simp only [q9,B0,reduceIte,a8]
 exact rfl
theorem qfg {W:Nat→Bool}{h:Heap} (hW:∀ b,
  (geL h.length) b→W b=true) (k:Nat) (d6:List Bool) (d9:List Bool) (r:Bool) (hF:qaq k d6 d9=some r) : Ret E W 19 [lst cB d6,
  lst cB d9] h (fun v h'=>cut h.length h' E.sz false 9 v=some (.bool r)):=by
 refine Ret.of (fn:=x19) rfl (Run.of ?_)
 unfold qaq at hF
 have zf0:zf [lst cB d6,lst cB d9] 0=lst cB d6:=rfl
 have zf1:zf [lst cB d6,lst cB d9] 1=lst cB d9:=rfl
 generalize zf [lst cB d6,lst cB d9]=fr0 at zf0 zf1 ⊢
 have hS:Sep h (geL h.length) []:=a1x h
 simp only [x19,qd,qc,qe,qa,q8o,zf0,zr,qb,ja,zf1,qq,ya,qv,B0,reduceIte,a8]
 refine qs (t:=(decide ((o6 d6:Int)≠(o6 d9:Int)))) (fun hc1=>?_) (fun hc1=>?_)
 ·rw [iteT hc1] at hF
  simp only [qd,qc,qe,qa,qx,B0,reduceIte,a8]
  have he:=qg hF
  subst he
  simp only [q9,B0,reduceIte,a8]
  exact rfl
 rw [iteF hc1] at hF
 simp only [qw,q8m,qd,qc,qe,qa,B0,reduceIte,a8]
 obtain ⟨oc6,hX8,hk9⟩:=jz hF
 simp only [q4p]
 refine wg (σ:=Int) (fun s38=>qa8 d6 d9 s38) (fun s fr' h'=>fr' 0=lst cB d6∧fr' 1=lst cB d9∧fr' 5 = .int .i64 s∧Sep h' (geL h.length)
   ([])) hX8 ⟨zf0,zf1,rfl,hS⟩ (fun _ _ _ h=>h) ?_ ?_
 ·rintro s3 fr18 h19 ⟨f21,f22,f23,hS20⟩ oc7 hF10 hr11 Q12 hN13 hK14 hR15 hE16
  unfold qa8 at hF10
  simp only [q21,qd,qc,f23,qe,f21,zr,qb,ja,qq,yg,qa,qv,B0,reduceIte,a8]
  refine qs (t:=(decide (s3<(o6 d6:Int)))) (fun hc25=>?_) (fun hc25=>?_)
  ·rw [iteT hc25] at hF10
   obtain ⟨x26,hx27,hF28⟩:=qi hF10
   simp only [qw,q22,qd,j5,q7o,z9,f21,zx,qh,f23,kz,B0,reduceIte,a8]
   refine qo (v := .ref (cB x26) 0) (j9 hx27 rfl) ?_
   simp only [zh,B0,reduceIte,a8]
   refine qo (v := .bool x26) rfl ?_
   obtain ⟨x29,hx30,hF31⟩:=qi hF28
   simp only [f22,zx,qh,f23,kz,B0,reduceIte,a8]
   refine qo (v := .ref (cB x29) 0) (j9 hx30 rfl) ?_
   simp only [zh,B0,reduceIte,a8]
   refine qo (v := .bool x29) rfl ?_
   simp only [zcn,qh,qe0,za,qv,B0,reduceIte,a8]
   refine qs (t:=(!(x26 == x29))) (fun hc32=>?_) (fun hc32=>?_)
   ·rw [iteT hc32] at hF31
    simp only [qd,qc,qe,qa,qx,B0,reduceIte,a8]
    have e33:=qg hF31
    subst e33
    have ho34:=hr11 _ rfl
    have hk35:=hk9
    rw [ho34] at hk35
    dsimp only [jnO] at hk35
    apply hR15
    have he:=qg hk35
    subst he
    simp only [q9,B0,reduceIte,a8]
    exact rfl
   rw [iteF hc32] at hF31
   simp only [qw,kg,qc,f23,qe,qq,qb,j8,qa,qr,B0,reduceIte,a8]
   have e36:=qg hF31
   exact hN13 _ _ _ e36.symm ⟨f21,f22,rfl,hS20⟩
  rw [iteF hc25] at hF10
  simp only [yn,yl,y8,B0,reduceIte,a8]
  have e37:=qg hF10
  exact hK14 _ _ _ e37.symm ⟨f21,f22,f23,hS20⟩
 rintro s39 fr40 h41 rfl ⟨f43,f44,f45,hS42⟩
 dsimp only [jnO] at hk9
 unfold qhk at hk9
 simp only [qd,qc,qe,qa,qx,B0,reduceIte,a8]
 have he:=qg hk9
 subst he
 simp only [q9,B0,reduceIte,a8]
 exact rfl
theorem qj6 {W:Nat→Bool}{h:Heap} (hW:∀ b,
  (geL h.length) b→W b=true) (d6:RaftStep) (d9:RaftStep) (r:Bool) (hF:qaz d6 d9=some r) : Ret E W 55 [.agg [.int .i64 d6.Kind,.int .i64 d6.K,
  .int .i64 d6.To,.int .i64 d6.N],.agg [.int .i64 d9.Kind,.int .i64 d9.K,.int .i64 d9.To,
  .int .i64 d9.N]] h (fun v h'=>cut h.length h' E.sz false 9 v=some (.bool r)):=by
 refine Ret.of (fn:=x55) rfl (Run.of ?_)
 unfold qaz at hF
 have zf0:zf [.agg [.int .i64 d6.Kind,.int .i64 d6.K,.int .i64 d6.To,.int .i64 d6.N],.agg [.int .i64 d9.Kind,.int .i64 d9.K,.int .i64 d9.To,
   .int .i64 d9.N]] 0 = .agg [.int .i64 d6.Kind,.int .i64 d6.K,.int .i64 d6.To,.int .i64 d6.N]:=rfl
 have zf1:zf [.agg [.int .i64 d6.Kind,.int .i64 d6.K,.int .i64 d6.To,.int .i64 d6.N],.agg [.int .i64 d9.Kind,.int .i64 d9.K,.int .i64 d9.To,
   .int .i64 d9.N]] 1 = .agg [.int .i64 d9.Kind,.int .i64 d9.K,.int .i64 d9.To,.int .i64 d9.N]:=rfl
 generalize zf [.agg [.int .i64 d6.Kind,.int .i64 d6.K,.int .i64 d6.To,.int .i64 d6.N],.agg [.int .i64 d9.Kind,.int .i64 d9.K,.int .i64 d9.To,
   .int .i64 d9.N]]=fr0 at zf0 zf1 ⊢
 have hS:Sep h (geL h.length) []:=a1x h
 simp only [x55,qd,qc,kt,zf0,B0,reduceIte,a8]
 refine j0 (cs:=[.int .i64 d6.Kind,.int .i64 d6.K,.int .i64 d6.To,.int .i64 d6.N]) hS rfl rfl rfl (fun b1 h2 hS3=>?_)
 simp only [kt,zf1,B0,reduceIte,a8]
 refine j0 (cs:=[.int .i64 d9.Kind,.int .i64 d9.K,.int .i64 d9.To,.int .i64 d9.N]) hS3 rfl rfl rfl (fun b5 h6 hS7=>?_)
 simp only [qe,qa,B0,reduceIte,a8]
 refine z8 (s9 hS7) hW (by simp only [B0,reduceIte,a8]) (fun h9 hS10=>?_)
 refine z8 hS10 hW (by simp only [B0,reduceIte,a8]) (fun h11 hS12=>?_)
 simp only [z7,q3i,qd,qc,ql,qb,n7,n8,n9,qn,qj,B0,reduceIte,a8]
 refine qf (v := .int .i64 d6.Kind) rfl ?_
 simp only [ql,qb,n7,n8,n9,qn,qj,B0,reduceIte,a8]
 refine qf (v := .int .i64 d9.Kind) rfl ?_
 simp only [qq,qb,ya,qa,qv,B0,reduceIte,a8]
 refine qs (t:=(decide (d6.Kind≠d9.Kind))) (fun hc13=>?_) (fun hc13=>?_)
 ·rw [iteT hc13] at hF
  simp only [qd,qc,qe,qa,qx,B0,reduceIte,a8]
  have he:=qg hF
  subst he
  simp only [q9,B0,reduceIte,a8]
  exact rfl
 rw [iteF hc13] at hF
 simp only [qw,q4j,qd,qc,ql,qb,n7,n8,n9,qn,qj,B0,reduceIte,a8]
 refine qf (v := .int .i64 d6.K) rfl ?_
 simp only [ql,qb,n7,n8,n9,qn,qj,B0,reduceIte,a8]
 refine qf (v := .int .i64 d9.K) rfl ?_
 simp only [qq,qb,ya,qa,qv,B0,reduceIte,a8]
 refine qs (t:=(decide (d6.K≠d9.K))) (fun hc14=>?_) (fun hc14=>?_)
 ·rw [iteT hc14] at hF
  simp only [qd,qc,qe,qa,qx,B0,reduceIte,a8]
  have he:=qg hF
  subst he
  simp only [q9,B0,reduceIte,a8]
  exact rfl
 rw [iteF hc14] at hF
 simp only [qw,q95,qd,qc,ql,qb,n7,n8,n9,qn,qj,B0,reduceIte,a8]
 refine qf (v := .int .i64 d6.To) rfl ?_
 simp only [ql,qb,n7,n8,n9,qn,qj,B0,reduceIte,a8]
 refine qf (v := .int .i64 d9.To) rfl ?_
 simp only [qq,qb,ya,qa,qv,B0,reduceIte,a8]
 refine qs (t:=(decide (d6.To≠d9.To))) (fun hc15=>?_) (fun hc15=>?_)
 ·rw [iteT hc15] at hF
  simp only [qd,qc,qe,qa,qx,B0,reduceIte,a8]
  have he:=qg hF
  subst he
  simp only [q9,B0,reduceIte,a8]
  exact rfl
 rw [iteF hc15] at hF
 simp only [qw,q6j,qd,qc,ql,qb,n7,n8,n9,qn,qj,B0,reduceIte,a8]
 refine qf (v := .int .i64 d6.N) rfl ?_
 simp only [ql,qb,n7,n8,n9,qn,qj,B0,reduceIte,a8]
 refine qf (v := .int .i64 d9.N) rfl ?_
 simp only [qq,qb,ya,qa,qv,B0,reduceIte,a8]
 refine qs (t:=(decide (d6.N≠d9.N))) (fun hc16=>?_) (fun hc16=>?_)
 ·rw [iteT hc16] at hF
  simp only [qd,qc,qe,qa,qx,B0,reduceIte,a8]
  have he:=qg hF
  subst he
  simp only [q9,B0,reduceIte,a8]
  exact rfl
 rw [iteF hc16] at hF
 simp only [qw,qd,qc,qe,qa,qx,B0,reduceIte,a8]
 have he:=qg hF
 subst he
 simp only [q9,B0,reduceIte,a8]
 exact rfl
theorem qjd {W:Nat→Bool}{h:Heap} (hW:∀ b,
  (geL h.length) b→W b=true) (k:Nat) (d6:List RaftStep) (d9:List RaftStep) (r:Bool)
  (hF:qal k d6 d9=some r) : Ret E W 20 [lst zb d6,lst zb d9] h (fun v h'=>cut h.length h' E.sz false 9 v=some (.bool r)):=by
 refine Ret.of (fn:=x20) rfl (Run.of ?_)
 unfold qal at hF
 have zf0:zf [lst zb d6,lst zb d9] 0=lst zb d6:=rfl
 have zf1:zf [lst zb d6,lst zb d9] 1=lst zb d9:=rfl
 generalize zf [lst zb d6,lst zb d9]=fr0 at zf0 zf1 ⊢
 have hS:Sep h (geL h.length) []:=a1x h
 simp only [x20,qd,qc,qe,qa,q9u,zf0,zr,qb,ja,zf1,qq,ya,qv,B0,reduceIte,a8]
 refine qs (t:=(decide ((o6 d6:Int)≠(o6 d9:Int)))) (fun hc1=>?_) (fun hc1=>?_)
 ·rw [iteT hc1] at hF
  simp only [qd,qc,qe,qa,qx,B0,reduceIte,a8]
  have he:=qg hF
  subst he
  simp only [q9,B0,reduceIte,a8]
  exact rfl
 rw [iteF hc1] at hF
 simp only [qw,q47,qd,qc,qe,qa,B0,reduceIte,a8]
 obtain ⟨oc6,hX8,hk9⟩:=jz hF
 simp only [q9n]
 refine wg (σ:=Int) (fun s41=>xp d6 d9 s41)
   (fun s fr' h'=>fr' 0=lst zb d6∧fr' 1=lst zb d9∧fr' 5 = .int .i64 s∧Sep h' (geL h.length) ([])) hX8 ⟨zf0,zf1,rfl,
   hS⟩ (fun _ _ _ h=>h) ?_ ?_
 ·rintro s3 fr18 h19 ⟨f21,f22,f23,hS20⟩ oc7 hF10 hr11 Q12 hN13 hK14 hR15 hE16
  unfold xp at hF10
  simp only [q8f,qd,qc,f23,qe,f21,zr,qb,ja,qq,yg,qa,qv,B0,reduceIte,a8]
  refine qs (t:=(decide (s3<(o6 d6:Int)))) (fun hc25=>?_) (fun hc25=>?_)
  ·rw [iteT hc25] at hF10
   obtain ⟨x26,hx27,hF28⟩:=qi hF10
   simp only [qw,q6q,qd,j5,q2g,z9,f21,zx,qh,f23,kz,B0,reduceIte,a8]
   refine qo (v := .ref (zb x26) 0) (j9 hx27 rfl) ?_
   simp only [zh,B0,reduceIte,a8]
   refine qo (v := .agg [.int .i64 x26.Kind,.int .i64 x26.K,.int .i64 x26.To,.int .i64 x26.N]) rfl ?_
   obtain ⟨x29,hx30,hF31⟩:=qi hF28
   simp only [f22,zx,qh,f23,kz,B0,reduceIte,a8]
   refine qo (v := .ref (zb x29) 0) (j9 hx30 rfl) ?_
   simp only [zh,B0,reduceIte,a8]
   refine qo (v := .agg [.int .i64 x29.Kind,.int .i64 x29.K,.int .i64 x29.To,.int .i64 x29.N]) rfl ?_
   obtain ⟨v32,hx33,hF34⟩:=qi hF31
   simp only [wm,B0,reduceIte,a8]
   refine qdd rfl (qp (yf (qp zg (qp zg (qp zg (qp zg zm))))) (qp (yf (qp zg (qp zg
     (qp zg (qp zg zm))))) zm)) (qj6 (fun b hb=>decide_eq_true hb) x26 x29 v32 hx33) ?_
   simp only [qfw,qh,yw,za,qv,B0,reduceIte,a8]
   refine qs (t:=(!v32)) (fun hc35=>?_) (fun hc35=>?_)
   ·rw [iteT hc35] at hF34
    simp only [qd,qc,qe,qa,qx,B0,reduceIte,a8]
    have e36:=qg hF34
    subst e36
    have ho37:=hr11 _ rfl
    have hk38:=hk9
    rw [ho37] at hk38
    dsimp only [jnO] at hk38
    apply hR15
    have he:=qg hk38
    subst he
    simp only [q9,B0,reduceIte,a8]
    exact rfl
   rw [iteF hc35] at hF34
   simp only [qw,kg,qc,f23,qe,qq,qb,j8,qa,qr,B0,reduceIte,a8]
   have e39:=qg hF34
   exact hN13 _ _ _ e39.symm ⟨f21,f22,rfl,hS20⟩
  rw [iteF hc25] at hF10
  simp only [yn,yl,y8,B0,reduceIte,a8]
  have e40:=qg hF10
  exact hK14 _ _ _ e40.symm ⟨f21,f22,f23,hS20⟩
 rintro s42 fr43 h44 rfl ⟨f46,f47,f48,hS45⟩
 dsimp only [jnO] at hk9
 unfold qe8 at hk9
 simp only [qd,qc,qe,qa,qx,B0,reduceIte,a8]
 have he:=qg hk9
 subst he
 simp only [q9,B0,reduceIte,a8]
 exact rfl
theorem qiq {W:Nat→Bool}{h:Heap}{lo:Nat→Prop}{S0:List Obj} (hW:∀ b,
  lo b→W b=true) (k:Nat) (pv0:XV) (pc0:List Obj) (d6:List RaftStep) (ph0:SlF zb 4 57 pv0 d6 pc0) (k_1:Int) (r:Int × (List RaftStep))
  (hF:uf k d6 k_1=some r) (hS:Sep h lo (pc0++(S0))) : Ret E W 21 [pv0,.int .i64 k_1] h (fun v h'=>∃ ic0,
  v = .int .i64 r.1∧SlF zb 4 57 pv0 r.2 ic0∧Sep h' lo (ic0++(S0))):=by
 refine Ret.of (fn:=x21) rfl (Run.of ?_)
 unfold uf at hF
 have zf0:zf [pv0,.int .i64 k_1] 0=pv0:=rfl
 have zf1:zf [pv0,.int .i64 k_1] 1 = .int .i64 k_1:=rfl
 generalize zf [pv0,.int .i64 k_1]=fr0 at zf0 zf1 ⊢
 simp only [x21,qd,qc,qe,qa,qx4,B0,reduceIte,a8]
 obtain ⟨oc13,hX15,hk16⟩:=jz hF
 simp only [qxy]
 refine wg (σ:=Int × Int × (List RaftStep)) (fun s60=>w8 s60.1 s60.2.1 s60.2.2) (fun s fr' h'=>∃ c9,
   fr' 0=pv0∧fr' 1 = .int .i64 s.1∧fr' 5 = .int .i64 s.2.1∧SlF zb 4 57 pv0 s.2.2 c9∧Sep h' lo (c9++(S0))) hX15 ⟨pc0,zf0,zf1,rfl,ph0,
   hS⟩ (fun _ _ _ h=>h) ?_ ?_
 ·rintro ⟨s6,s7,s8⟩ fr25 h26 ⟨c9,f28,f29,f30,hv10,hS27⟩ oc14 hF17 hr18 Q19 hN20 hK21 hR22 hE23
  dsimp only at *
  unfold w8 at hF17
  simp only [q55,qd,qc,f30,qe,f28,zr,qb,a1o hv10,qq,yg,qa,qv,B0,reduceIte,a8]
  refine qs (t:=(decide (s7<(o6 s8:Int)))) (fun hc32=>?_) (fun hc32=>?_)
  ·rw [iteT hc32] at hF17
   obtain ⟨x33,hx34,hF35⟩:=qi hF17
   simp only [qw,zae,qd,j5,q3t,qc,f28,qe,f30,f29,zu,B0,reduceIte,a8]
   obtain ⟨b36,hb37⟩:=a1w hv10 (jq hx34)
   refine qf (a2v hv10 hb37 hx34) ?_
   simp only [ql,qb,n7,n8,n9,qu,zd,B0,reduceIte,a8]
   refine uq (f:=zb) (x':=(RaftStep.mk s6 x33.K x33.To x33.N)) (o:=0) hv10 hS27 hW hb37 hx34 (fun _=>rfl) rfl rfl (nle rfl) rfl
     (fun c40 h38 hv41 hS39=>?_)
   have hx42:=jl (x':=(RaftStep.mk s6 x33.K x33.To x33.N)) hx34
   simp only [qa,q78,qd,qc,f29,qe,qq,qb,j8,q32,f28,f30,zu,B0,reduceIte,a8]
   refine qf (a2v hv41 hb37 hx42) ?_
   simp only [ql,qb,n7,n8,n9,qu,zd,B0,reduceIte,a8]
   refine uq (f:=zb) (x':=(RaftStep.mk s6 (l9 .i64 (s6+1)) x33.To x33.N)) (o:=1) hv41 hS39 hW hb37 hx42 (fun _=>rfl) rfl rfl
     (nle rfl) rfl (fun c45 h43 hv46 hS44=>?_)
   rw [a3y] at hv46
   have hx47:=jl (x':=(RaftStep.mk s6 (l9 .i64 (s6+1)) x33.To x33.N)) hx34
   simp only [qa,q42,qd,qc,qe,qq,qb,j8,q5t,f28,f30,zu,B0,reduceIte,a8]
   refine qf (a2v hv46 hb37 hx47) ?_
   simp only [ql,qb,n7,n8,n9,qu,zd,B0,reduceIte,a8]
   refine uq (f:=zb) (x':=(RaftStep.mk s6 (l9 .i64 (s6+1)) (l9 .i64 ((l9 .i64 (s6+1))+1)) x33.N))
     (o:=2) hv46 hS44 hW hb37 hx47 (fun _=>rfl) rfl rfl (nle rfl) rfl (fun c50 h48 hv51 hS49=>?_)
   rw [a3y] at hv51
   have hx52:=jl (x':=(RaftStep.mk s6 (l9 .i64 (s6+1)) (l9 .i64 ((l9 .i64 (s6+1))+1)) x33.N)) hx34
   simp only [qa,q7j,qd,qc,qe,qq,qb,j8,q4v,f28,f30,zu,B0,reduceIte,a8]
   refine qf (a2v hv51 hb37 hx52) ?_
   simp only [ql,qb,n7,n8,n9,qu,zd,B0,reduceIte,a8]
   refine uq (f:=zb) (x':=(RaftStep.mk s6 (l9 .i64 (s6+1)) (l9 .i64 ((l9 .i64 (s6+1))+1)) (l9 .i64
     ((l9 .i64 ((l9 .i64 (s6+1))+1))+1)))) (o:=3) hv51 hS49 hW hb37 hx52 (fun _=>rfl) rfl rfl (nle rfl) rfl (fun c55 h53 hv56 hS54=>?_)
   rw [a3y] at hv56
   have hx57:=jl (x':=(RaftStep.mk s6 (l9 .i64 (s6+1)) (l9 .i64 ((l9 .i64 (s6+1))+1)) (l9 .i64 ((l9 .i64
     ((l9 .i64 (s6+1))+1))+1)))) hx34
   simp only [qa,qc,qe,qq,qb,j8,kg,f30,qr,B0,reduceIte,a8]
   have e58:=qg hF35
   exact hN20 _ _ _ e58.symm ⟨c55,f28,rfl,rfl,hv56,hS54⟩
  rw [iteF hc32] at hF17
  simp only [yn,yl,y8,B0,reduceIte,a8]
  have e59:=qg hF17
  exact hK21 _ _ _ e59.symm ⟨c9,f28,f29,f30,hv10,hS27⟩
 rintro ⟨s61,s62,s63⟩ fr66 h67 rfl ⟨c64,f69,f70,f71,hv65,hS68⟩
 dsimp only [jnO] at hk16
 dsimp only at *
 unfold qel at hk16
 simp only [qd,qc,f70,qe,qa,qx,B0,reduceIte,a8]
 have he:=qg hk16
 subst he
 simp only [q9,B0,reduceIte,a8]
 exact ⟨c64,by first | trivial | rfl,hv65,hS68⟩
theorem qgk {W:Nat→Bool}{h:Heap}{lo:Nat→Prop}{S0:List Obj} (hW:∀ b,
  lo b→W b=true) (k:Nat) (pv0:XV) (pc0:List Obj) (d6:List Entry) (ph0:SlF qt 2 65 pv0 d6 pc0) (k_1:Int) (r:Int × (List Entry))
  (hF:uj k d6 k_1=some r) (hS:Sep h lo (pc0++(S0))) : Ret E W 85 [pv0,.int .i64 k_1] h (fun v h'=>∃ ic0,
  v = .int .i64 r.1∧SlF qt 2 65 pv0 r.2 ic0∧Sep h' lo (ic0++(S0))):=by
 refine Ret.of (fn:=x85) rfl (Run.of ?_)
 unfold uj at hF
 have zf0:zf [pv0,.int .i64 k_1] 0=pv0:=rfl
 have zf1:zf [pv0,.int .i64 k_1] 1 = .int .i64 k_1:=rfl
 generalize zf [pv0,.int .i64 k_1]=fr0 at zf0 zf1 ⊢
 simp only [x85,qd,qc,qe,qa,q71,B0,reduceIte,a8]
 obtain ⟨oc13,hX15,hk16⟩:=jz hF
 simp only [q12]
 refine wg (σ:=Int × Int × (List Entry)) (fun s50=>ud s50.1 s50.2.1 s50.2.2) (fun s fr' h'=>∃ c9,
   fr' 0=pv0∧fr' 1 = .int .i64 s.1∧fr' 5 = .int .i64 s.2.1∧SlF qt 2 65 pv0 s.2.2 c9∧Sep h' lo (c9++(S0))) hX15 ⟨pc0,zf0,zf1,rfl,ph0,
   hS⟩ (fun _ _ _ h=>h) ?_ ?_
 ·rintro ⟨s6,s7,s8⟩ fr25 h26 ⟨c9,f28,f29,f30,hv10,hS27⟩ oc14 hF17 hr18 Q19 hN20 hK21 hR22 hE23
  dsimp only at *
  unfold ud at hF17
  simp only [q27,qd,qc,f30,qe,f28,zr,qb,a1o hv10,qq,yg,qa,qv,B0,reduceIte,a8]
  refine qs (t:=(decide (s7<(o6 s8:Int)))) (fun hc32=>?_) (fun hc32=>?_)
  ·rw [iteT hc32] at hF17
   obtain ⟨x33,hx34,hF35⟩:=qi hF17
   simp only [qw,q3v,qd,j5,q7v,qc,f28,qe,f30,f29,zu,B0,reduceIte,a8]
   obtain ⟨b36,hb37⟩:=a1w hv10 (jq hx34)
   refine qf (a2v hv10 hb37 hx34) ?_
   simp only [ql,qb,n7,n8,n9,qu,zd,B0,reduceIte,a8]
   refine uq (f:=qt) (x':=(Entry.mk s6 x33.Value)) (o:=0) hv10 hS27 hW hb37 hx34 (fun _=>rfl) rfl rfl (nle rfl) rfl (fun c40 h38 hv41 hS39=>?_)
   have hx42:=jl (x':=(Entry.mk s6 x33.Value)) hx34
   simp only [qa,q70,qd,qc,f29,qe,qq,qb,j8,q8d,f28,f30,zu,B0,reduceIte,a8]
   refine qf (a2v hv41 hb37 hx42) ?_
   simp only [ql,qb,n7,n8,n9,qu,zd,B0,reduceIte,a8]
   refine uq (f:=qt) (x':=(Entry.mk s6 (l9 .i64 (s6+1)))) (o:=1) hv41 hS39 hW hb37 hx42 (fun _=>rfl) rfl rfl (nle rfl) rfl
     (fun c45 h43 hv46 hS44=>?_)
   rw [a3y] at hv46
   have hx47:=jl (x':=(Entry.mk s6 (l9 .i64 (s6+1)))) hx34
   simp only [qa,qc,qe,qq,qb,j8,kg,f30,qr,B0,reduceIte,a8]
   have e48:=qg hF35
   exact hN20 _ _ _ e48.symm ⟨c45,f28,rfl,rfl,hv46,hS44⟩
  rw [iteF hc32] at hF17
  simp only [yn,yl,y8,B0,reduceIte,a8]
  have e49:=qg hF17
  exact hK21 _ _ _ e49.symm ⟨c9,f28,f29,f30,hv10,hS27⟩
 rintro ⟨s51,s52,s53⟩ fr56 h57 rfl ⟨c54,f59,f60,f61,hv55,hS58⟩
 dsimp only [jnO] at hk16
 dsimp only at *
 unfold qf3 at hk16
 simp only [qd,qc,f60,qe,qa,qx,B0,reduceIte,a8]
 have he:=qg hk16
 subst he
 simp only [q9,B0,reduceIte,a8]
 exact ⟨c54,by first | trivial | rfl,hv55,hS58⟩
theorem qlb {W:Nat→Bool}{h:Heap}{lo:Nat→Prop}{S0:List Obj} (hW:∀ b,
  lo b→W b=true) (k:Nat) (pv0:XV) (pc0:List Obj) (d6:List Int) (ph0:SlF cI 1 3 pv0 d6 pc0) (k_1:Int) (r:Int × (List Int))
  (hF:qcp k d6 k_1=some r) (hS:Sep h lo (pc0++(S0))) : Ret E W 86 [pv0,.int .i64 k_1] h (fun v h'=>∃ ic0,
  v = .int .i64 r.1∧SlF cI 1 3 pv0 r.2 ic0∧Sep h' lo (ic0++(S0))):=by
 refine Ret.of (fn:=x86) rfl (Run.of ?_)
 unfold qcp at hF
 have zf0:zf [pv0,.int .i64 k_1] 0=pv0:=rfl
 have zf1:zf [pv0,.int .i64 k_1] 1 = .int .i64 k_1:=rfl
 generalize zf [pv0,.int .i64 k_1]=fr0 at zf0 zf1 ⊢
 simp only [x86,qd,qc,qe,qa,q4s,B0,reduceIte,a8]
 obtain ⟨oc13,hX15,hk16⟩:=jz hF
 simp only [q75]
 refine wg (σ:=Int × Int × (List Int)) (fun s45=>qae s45.1 s45.2.1 s45.2.2) (fun s fr' h'=>∃ c9,
   fr' 0=pv0∧fr' 1 = .int .i64 s.1∧fr' 5 = .int .i64 s.2.1∧SlF cI 1 3 pv0 s.2.2 c9∧Sep h' lo (c9++(S0))) hX15 ⟨pc0,zf0,zf1,rfl,ph0,hS⟩ (fun _ _ _ h=>h) ?_ ?_
 ·rintro ⟨s6,s7,s8⟩ fr25 h26 ⟨c9,f28,f29,f30,hv10,hS27⟩ oc14 hF17 hr18 Q19 hN20 hK21 hR22 hE23
  dsimp only at *
  unfold qae at hF17
  simp only [q4z,qd,qc,f30,qe,f28,zr,qb,a1o hv10,qq,yg,qa,qv,B0,reduceIte,a8]
  refine qs (t:=(decide (s7<(o6 s8:Int)))) (fun hc32=>?_) (fun hc32=>?_)
  ·rw [iteT hc32] at hF17
   obtain ⟨x33,hx34,hF35⟩:=qi hF17
   simp only [qw,q8u,qd,j5,q1m,qc,f28,qe,f30,f29,zu,B0,reduceIte,a8]
   obtain ⟨b36,hb37⟩:=a1w hv10 (jq hx34)
   refine qf (a2v hv10 hb37 hx34) ?_
   simp only [zd,B0,reduceIte,a8]
   refine uq (f:=cI) (x':=s6) (o:=0) hv10 hS27 hW hb37 hx34 (fun _=>rfl) rfl rfl (nle rfl) rfl (fun c40 h38 hv41 hS39=>?_)
   have hx42:=jl (x':=s6) hx34
   simp only [qa,qc,f29,qe,qq,qb,j8,kg,f30,qr,B0,reduceIte,a8]
   have e43:=qg hF35
   exact hN20 _ _ _ e43.symm ⟨c40,f28,rfl,rfl,hv41,hS39⟩
  rw [iteF hc32] at hF17
  simp only [yn,yl,y8,B0,reduceIte,a8]
  have e44:=qg hF17
  exact hK21 _ _ _ e44.symm ⟨c9,f28,f29,f30,hv10,hS27⟩
 rintro ⟨s46,s47,s48⟩ fr51 h52 rfl ⟨c49,f54,f55,f56,hv50,hS53⟩
 dsimp only [jnO] at hk16
 dsimp only at *
 unfold qg5 at hk16
 simp only [qd,qc,f55,qe,qa,qx,B0,reduceIte,a8]
 have he:=qg hk16
 subst he
 simp only [q9,B0,reduceIte,a8]
 exact ⟨c49,by first | trivial | rfl,hv50,hS53⟩
theorem qkp {W:Nat→Bool}{h:Heap}{lo:Nat→Prop}{S0:List Obj} (hW:∀ b,
  lo b→W b=true) (k:Nat) (pv0:XV) (pc0:List Obj) (d6:List Peer) (ph0:SlN Peer.R 5 43 pv0 d6 pc0) (k_1:Int) (r:Int × (List Peer))
  (hF:qb3 k d6 k_1=some r) (hS:Sep h lo (pc0++(S0))) : Ret E W 56 [pv0,.int .i64 k_1] h (fun v h'=>∃ ic0,
  v = .int .i64 r.1∧SlN Peer.R 5 43 pv0 r.2 ic0∧Sep h' lo (ic0++(S0))):=by
 refine Ret.of (fn:=x56) rfl (Run.of ?_)
 unfold qb3 at hF
 have zf0:zf [pv0,.int .i64 k_1] 0=pv0:=rfl
 have zf1:zf [pv0,.int .i64 k_1] 1 = .int .i64 k_1:=rfl
 generalize zf [pv0,.int .i64 k_1]=fr0 at zf0 zf1 ⊢
 simp only [x56,qd,qc,qe,qa,qwq,B0,reduceIte,a8]
 obtain ⟨oc13,hX15,hk16⟩:=jz hF
 simp only [qxe]
 refine wg (σ:=Int × Int × (List Peer)) (fun s86=>u5 k s86.1 s86.2.1 s86.2.2) (fun s fr' h'=>∃ c9,
   fr' 0=pv0∧fr' 1 = .int .i64 s.1∧fr' 5 = .int .i64 s.2.1∧SlN Peer.R 5 43 pv0 s.2.2 c9∧Sep h' lo (c9++(S0))) hX15 ⟨pc0,zf0,zf1,rfl,ph0,
   hS⟩ (fun _ _ _ h=>h) ?_ ?_
 ·rintro ⟨s6,s7,s8⟩ fr25 h26 ⟨c9,f28,f29,f30,hv10,hS27⟩ oc14 hF17 hr18 Q19 hN20 hK21 hR22 hE23
  dsimp only at *
  unfold u5 at hF17
  simp only [qs3,qd,qc,f30,qe,f28,zr,qb,SlN.len hv10,qq,yg,qa,qv,B0,reduceIte,a8]
  refine qs (t:=(decide (s7<(o6 s8:Int)))) (fun hc32=>?_) (fun hc32=>?_)
  ·rw [iteT hc32] at hF17
   obtain ⟨x33,hx34,hF35⟩:=qi hF17
   simp only [qw,q63,qd,j5,q96,qc,f28,qe,f30,f29,zu,B0,reduceIte,a8]
   obtain ⟨b36,hb37⟩:=SlN.isrow hv10 (jq hx34)
   refine qf (SlN.ia hv10 hb37 hx34) ?_
   obtain ⟨c40,cs41,os42,hv43,hR44,hS45⟩:=SlG.opn (SlN.toG hv10 hb37 Peer.RO.len) hx34 zo Peer.RO.len hS27
   obtain ⟨v47,c48,v51,c52,hv49,hv53,rfl,rfl⟩:=hR44
   have hS46:=Sep.no2 hS45
   simp only [ql,qb,n7,n8,n9,qu,zd,B0,reduceIte,a8]
   refine kx (n:=5) (us:=[.int .i64 s6]) (cs:=[.int .i64 x33.Term,.bool x33.Leads,v47,.int .i64 x33.Commit,v51]) (o:=0) (cs':=[.int .i64 s6,
     .bool x33.Leads,v47,.int .i64 x33.Commit,v51]) rfl hv43 rfl hx34 hS46 hW rfl rfl (nle rfl) rfl (fun c55 h38 hv56 hS39=>?_)
   simp only [qa,q6a,qd,qc,f29,qe,qq,qb,j8,q5f,f28,f30,qgz (n:=3) (by decide),yh,zu,B0,reduceIte,
     a8]
   refine qf (a24 hv56 hx34) ?_
   simp only [ql,qb,n7,n8,n9,qu,zd,B0,reduceIte,a8]
   refine kx (n:=5) (us:=[.bool (decide ((a1l (l9 .i64 (s6+1)) 3)=0))]) (cs:=[.int .i64 s6,.bool x33.Leads,v47,.int .i64 x33.Commit,
     v51]) (o:=1) (cs':=[.int .i64 s6,.bool (decide ((a1l (l9 .i64 (s6+1)) 3)=0)),v47,.int .i64 x33.Commit,
     v51]) rfl hv56 rfl hx34 hS39 hW rfl rfl (nle rfl) rfl (fun c59 h57 hv60 hS58=>?_)
   simp only [qa,q15,qd,qc,qe,qq,qb,j8,q10,f28,f30,zu,B0,reduceIte,a8]
   refine qf (a24 hv60 hx34) ?_
   simp only [ql,qb,n7,n8,n9,qu,qj,B0,reduceIte,a8]
   refine qf (v:=v47) ((SlG.ld (o:=2) hv60 rfl hx34 hS58 (nle rfl)).trans rfl) ?_
   obtain ⟨v61,hx62,hF63⟩:=qi hF35
   simp only [qe,zp,B0,reduceIte,a8]
   refine qab rfl (qgk hW k v47 c48 x33.Log hv49 (l9 .i64 ((l9 .i64 (s6+1))+1)) v61 hx62 (s9 hS58)) ?_
   rintro _ h66 ⟨c64,rfl,hv65,hS67⟩
   simp only [qe,qa,q5v,qd,qc,f28,f30,zu,B0,reduceIte,a8]
   refine qf (a24 hv60 hx34) ?_
   simp only [ql,qb,n7,n8,n9,qu,zd,B0,reduceIte,a8]
   refine kx (n:=5) (us:=[.int .i64 v61.1]) (cs:=[.int .i64 s6,.bool (decide ((a1l (l9 .i64 (s6+1)) 3)=0)),v47,.int .i64 x33.Commit,
     v51]) (o:=3) (cs':=[.int .i64 s6,.bool (decide ((a1l (l9 .i64 (s6+1)) 3)=0)),v47,.int .i64 v61.1,
     v51]) rfl hv60 rfl hx34 (s9 hS67) hW rfl rfl (nle rfl) rfl (fun c70 h68 hv71 hS69=>?_)
   simp only [qa,zaf,qd,qc,qe,qq,qb,j8,q62,f28,f30,zu,B0,reduceIte,a8]
   refine qf (a24 hv71 hx34) ?_
   simp only [ql,qb,n7,n8,n9,qu,qj,B0,reduceIte,a8]
   refine qf (v:=v51) ((SlG.ld (o:=4) hv71 rfl hx34 hS69 (nle rfl)).trans rfl) ?_
   obtain ⟨v72,hx73,hF74⟩:=qi hF63
   simp only [qe,zp,B0,reduceIte,a8]
   refine qab rfl (qlb hW k v51 c52 x33.Match hv53 (l9 .i64 (v61.1+1)) v72 hx73 (o8 hS69)) ?_
   rintro _ h77 ⟨c75,rfl,hv76,hS78⟩
   simp only [qe,qa,kg,qc,f30,qq,qb,j8,qr,B0,reduceIte,a8]
   obtain ⟨c79,hv80,hS81⟩:=SlG.cls (e':=(Peer.mk s6 (decide ((a1l (l9 .i64 (s6+1)) 3)=0)) v61.2 v61.1 v72.2)) (c:=c70) (os:=c64 ++
     (c75)) hv71 rfl hx34 zo (Peer.RI (x:=(Peer.mk s6 (decide ((a1l (l9 .i64 (s6+1)) 3)=0)) v61.2 v61.1 v72.2)) hv65 hv76) (Sep.ni2 (c1:=c64)
     (c2:=c75) (o8 (o8 hS78)))
   have hx82:=jl (x':=(Peer.mk s6 (decide ((a1l (l9 .i64 (s6+1)) 3)=0)) v61.2 v61.1 v72.2)) hx34
   have hv83:=SlG.toN hv80
   have e84:=qg hF74
   exact hN20 _ _ _ e84.symm ⟨c79,f28,rfl,rfl,hv83,hS81⟩
  rw [iteF hc32] at hF17
  simp only [yn,yl,y8,B0,reduceIte,a8]
  have e85:=qg hF17
  exact hK21 _ _ _ e85.symm ⟨c9,f28,f29,f30,hv10,hS27⟩
 rintro ⟨s87,s88,s89⟩ fr92 h93 rfl ⟨c90,f95,f96,f97,hv91,hS94⟩
 dsimp only [jnO] at hk16
 dsimp only at *
 unfold qgg at hk16
 simp only [qd,qc,f96,qe,qa,qx,B0,reduceIte,a8]
 have he:=qg hk16
 subst he
 simp only [q9,B0,reduceIte,a8]
 exact ⟨c90,by first | trivial | rfl,hv91,hS94⟩
end Go.Proofs.Ytanblnjomhgphaa.X
namespace Go.Proofs.Ytanblnjomhgphaa.X
open Go
theorem qk3 {W:Nat→Bool}{h:Heap}{lo:Nat→Prop}{S0:List Obj} (hW:∀ b,
  lo b→W b=true) (k:Nat) (pv0:XV) (pc0:List Obj) (d8:List Mail) (ph0:SlN Mail.R 9 86 pv0 d8 pc0) (a9:Int) (r:Int × (List Mail))
  (hF:qb5 k d8 a9=some r) (hS:Sep h lo (pc0++(S0))) : Ret E W 57 [pv0,.int .i64 a9] h (fun v h'=>∃ ic0,
  v = .int .i64 r.1∧SlN Mail.R 9 86 pv0 r.2 ic0∧Sep h' lo (ic0++(S0))):=by
 refine Ret.of (fn:=x57) rfl (Run.of ?_)
 unfold qb5 at hF
 have zf0:zf [pv0,.int .i64 a9] 0=pv0:=rfl
 have zf1:zf [pv0,.int .i64 a9] 1 = .int .i64 a9:=rfl
 generalize zf [pv0,.int .i64 a9]=fr0 at zf0 zf1 ⊢
 simp only [x57,qd,qc,qe,qa,qxv,B0,reduceIte,a8]
 obtain ⟨oc13,hX15,hk16⟩:=jz hF
 simp only [qzj]
 refine wg (σ:=Int × Int × (List Mail)) (fun s95=>uv k s95.1 s95.2.1 s95.2.2) (fun s fr' h'=>∃ c9,
   fr' 0=pv0∧fr' 1 = .int .i64 s.1∧fr' 5 = .int .i64 s.2.1∧SlN Mail.R 9 86 pv0 s.2.2 c9∧Sep h' lo (c9++(S0))) hX15 ⟨pc0,zf0,zf1,rfl,ph0,
   hS⟩ (fun _ _ _ h=>h) ?_ ?_
 ·rintro ⟨s6,s7,s8⟩ fr25 h26 ⟨c9,f28,f29,f30,hv10,hS27⟩ oc14 hF17 hr18 Q19 hN20 hK21 hR22 hE23
  dsimp only at *
  unfold uv at hF17
  simp only [qyu,qd,qc,f30,qe,f28,zr,qb,SlN.len hv10,qq,yg,qa,qv,B0,reduceIte,a8]
  refine qs (t:=(decide (s7<(o6 s8:Int)))) (fun hc32=>?_) (fun hc32=>?_)
  ·rw [iteT hc32] at hF17
   obtain ⟨x33,hx34,hF35⟩:=qi hF17
   simp only [qw,qs6,qd,j5,qr4,qc,f28,qe,f30,f29,qq,qb,qgz (n:=3) (by decide),yh,zu,B0,reduceIte,
     a8]
   obtain ⟨b36,hb37⟩:=SlN.isrow hv10 (jq hx34)
   refine qf (SlN.ia hv10 hb37 hx34) ?_
   obtain ⟨c40,cs41,os42,hv43,hR44,hS45⟩:=SlG.opn (SlN.toG hv10 hb37 Mail.RO.len) hx34 zo Mail.RO.len hS27
   obtain ⟨v47,c48,hv49,rfl,rfl⟩:=hR44
   have hS46:=Sep.no1 hS45
   simp only [ql,qb,n7,n8,n9,qu,zd,B0,reduceIte,a8]
   refine kx (n:=9) (us:=[.bool (decide ((a1l s6 3)=0))]) (cs:=[.bool x33.Reply,.int .i64 x33.From,.int .i64 x33.To,.int .i64 x33.Term,
     .int .i64 x33.Prev,.int .i64 x33.PTerm,v47,.int .i64 x33.Commit,.int .i64 x33.Match]) (o:=0) (cs':=[.bool (decide ((a1l s6 3)=0)),.int .i64 x33.From,
     .int .i64 x33.To,.int .i64 x33.Term,.int .i64 x33.Prev,.int .i64 x33.PTerm,v47,.int .i64 x33.Commit,
     .int .i64 x33.Match]) rfl hv43 rfl hx34 hS46 hW rfl rfl (nle rfl) rfl (fun c51 h38 hv52 hS39=>?_)
   simp only [qa,qyb,qd,qc,f29,qe,qq,qb,j8,qs4,f28,f30,zu,B0,reduceIte,a8]
   refine qf (a24 hv52 hx34) ?_
   simp only [ql,qb,n7,n8,n9,qu,zd,B0,reduceIte,a8]
   refine kx (n:=9) (us:=[.int .i64 (l9 .i64 (s6+1))]) (cs:=[.bool (decide ((a1l s6 3)=0)),.int .i64 x33.From,.int .i64 x33.To,
     .int .i64 x33.Term,.int .i64 x33.Prev,.int .i64 x33.PTerm,v47,.int .i64 x33.Commit,.int .i64 x33.Match]) (o:=1) (cs':=[.bool (decide ((a1l s6 3)=0)),
     .int .i64 (l9 .i64 (s6+1)),.int .i64 x33.To,.int .i64 x33.Term,.int .i64 x33.Prev,.int .i64 x33.PTerm,v47,.int .i64 x33.Commit,
     .int .i64 x33.Match]) rfl hv52 rfl hx34 hS39 hW rfl rfl (nle rfl) rfl (fun c55 h53 hv56 hS54=>?_)
   simp only [qa,qy5,qd,qc,qe,qq,qb,j8,qsq,f28,f30,zu,B0,reduceIte,a8]
   refine qf (a24 hv56 hx34) ?_
   simp only [ql,qb,n7,n8,n9,qu,zd,B0,reduceIte,a8]
   refine kx (n:=9) (us:=[.int .i64 (l9 .i64 ((l9 .i64 (s6+1))+1))]) (cs:=[.bool (decide ((a1l s6 3)=0)),
     .int .i64 (l9 .i64 (s6+1)),.int .i64 x33.To,.int .i64 x33.Term,.int .i64 x33.Prev,.int .i64 x33.PTerm,v47,.int .i64 x33.Commit,
     .int .i64 x33.Match]) (o:=2) (cs':=[.bool (decide ((a1l s6 3)=0)),.int .i64 (l9 .i64 (s6+1)),
     .int .i64 (l9 .i64 ((l9 .i64 (s6+1))+1)),.int .i64 x33.Term,.int .i64 x33.Prev,.int .i64 x33.PTerm,v47,.int .i64 x33.Commit,
     .int .i64 x33.Match]) rfl hv56 rfl hx34 hS54 hW rfl rfl (nle rfl) rfl (fun c59 h57 hv60 hS58=>?_)
   simp only [qa,qy9,qd,qc,qe,qq,qb,j8,qu8,f28,f30,zu,B0,reduceIte,a8]
   refine qf (a24 hv60 hx34) ?_
   simp only [ql,qb,n7,n8,n9,qu,zd,B0,reduceIte,a8]
   refine kx (n:=9) (us:=[.int .i64 (l9 .i64 ((l9 .i64 ((l9 .i64 (s6+1))+1))+1))]) (cs:=[.bool (decide ((a1l s6 3)=0)),
     .int .i64 (l9 .i64 (s6+1)),.int .i64 (l9 .i64 ((l9 .i64 (s6+1))+1)),.int .i64 x33.Term,.int .i64 x33.Prev,.int .i64 x33.PTerm,
     v47,.int .i64 x33.Commit,.int .i64 x33.Match]) (o:=3) (cs':=[.bool (decide ((a1l s6 3)=0)),.int .i64 (l9 .i64 (s6+1)),
     .int .i64 (l9 .i64 ((l9 .i64 (s6+1))+1)),.int .i64 (l9 .i64 ((l9 .i64 ((l9 .i64 (s6+1))+1))+1)),
     .int .i64 x33.Prev,.int .i64 x33.PTerm,v47,.int .i64 x33.Commit,.int .i64 x33.Match]) rfl hv60 rfl hx34 hS58 hW rfl rfl (nle rfl) rfl (fun c63 h61 hv64 hS62=>?_)
   simp only [qa,q3u,qd,qc,qe,qq,qb,j8,q6p,f28,f30,zu,B0,reduceIte,a8]
   refine qf (a24 hv64 hx34) ?_
   simp only [ql,qb,n7,n8,n9,qu,zd,B0,reduceIte,a8]
   refine kx (n:=9) (us:=[.int .i64 (l9 .i64 ((l9 .i64 ((l9 .i64 ((l9 .i64 (s6+1))+1))+1))+1))]) (cs:=[.bool
     (decide ((a1l s6 3)=0)),.int .i64 (l9 .i64 (s6+1)),.int .i64 (l9 .i64 ((l9 .i64 (s6+1))+1)),
     .int .i64 (l9 .i64 ((l9 .i64 ((l9 .i64 (s6+1))+1))+1)),.int .i64 x33.Prev,.int .i64 x33.PTerm,v47,.int .i64 x33.Commit,
     .int .i64 x33.Match]) (o:=4) (cs':=[.bool (decide ((a1l s6 3)=0)),.int .i64 (l9 .i64 (s6+1)),
     .int .i64 (l9 .i64 ((l9 .i64 (s6+1))+1)),.int .i64 (l9 .i64 ((l9 .i64 ((l9 .i64 (s6+1))+1))+1)),
     .int .i64 (l9 .i64 ((l9 .i64 ((l9 .i64 ((l9 .i64 (s6+1))+1))+1))+1)),.int .i64 x33.PTerm,v47,.int .i64 x33.Commit,
     .int .i64 x33.Match]) rfl hv64 rfl hx34 hS62 hW rfl rfl (nle rfl) rfl (fun c67 h65 hv68 hS66=>?_)
   simp only [qa,q19,qd,qc,qe,qq,qb,j8,q90,f28,f30,zu,B0,reduceIte,a8]
   refine qf (a24 hv68 hx34) ?_
   simp only [ql,qb,n7,n8,n9,qu,zd,B0,reduceIte,a8]
   refine kx (n:=9) (us:=[.int .i64 (l9 .i64 ((l9 .i64 ((l9 .i64 ((l9 .i64 ((l9 .i64
     (s6+1))+1))+1))+1))+1))]) (cs:=[.bool (decide ((a1l s6 3)=0)),.int .i64 (l9 .i64 (s6+1)),
     .int .i64 (l9 .i64 ((l9 .i64 (s6+1))+1)),.int .i64 (l9 .i64 ((l9 .i64 ((l9 .i64 (s6+1))+1))+1)),
     .int .i64 (l9 .i64 ((l9 .i64 ((l9 .i64 ((l9 .i64 (s6+1))+1))+1))+1)),.int .i64 x33.PTerm,v47,.int .i64 x33.Commit,
     .int .i64 x33.Match]) (o:=5) (cs':=[.bool (decide ((a1l s6 3)=0)),.int .i64 (l9 .i64 (s6+1)),
     .int .i64 (l9 .i64 ((l9 .i64 (s6+1))+1)),.int .i64 (l9 .i64 ((l9 .i64 ((l9 .i64 (s6+1))+1))+1)),
     .int .i64 (l9 .i64 ((l9 .i64 ((l9 .i64 ((l9 .i64 (s6+1))+1))+1))+1)),
     .int .i64 (l9 .i64 ((l9 .i64 ((l9 .i64 ((l9 .i64 ((l9 .i64 (s6+1))+1))+1))+1))+1)),v47,
     .int .i64 x33.Commit,.int .i64 x33.Match]) rfl hv68 rfl hx34 hS66 hW rfl rfl (nle rfl) rfl (fun c71 h69 hv72 hS70=>?_)
   simp only [qa,q9a,qd,qc,qe,qq,qb,j8,q1t,f28,f30,zu,B0,reduceIte,a8]
   refine qf (a24 hv72 hx34) ?_
   simp only [ql,qb,n7,n8,n9,qu,qj,B0,reduceIte,a8]
   refine qf (v:=v47) ((SlG.ld (o:=6) hv72 rfl hx34 hS70 (nle rfl)).trans rfl) ?_
   obtain ⟨v73,hx74,hF75⟩:=qi hF35
   simp only [qe,zp,B0,reduceIte,a8]
   refine qab rfl (qgk hW k v47 c48 x33.Entry hv49 (l9 .i64 ((l9 .i64 ((l9 .i64 ((l9 .i64 ((l9 .i64
     ((l9 .i64 (s6+1))+1))+1))+1))+1))+1)) v73 hx74 (s9 hS70)) ?_
   rintro _ h78 ⟨c76,rfl,hv77,hS79⟩
   simp only [qe,qa,q53,qd,qc,f28,f30,zu,B0,reduceIte,a8]
   refine qf (a24 hv72 hx34) ?_
   simp only [ql,qb,n7,n8,n9,qu,zd,B0,reduceIte,a8]
   refine kx (n:=9) (us:=[.int .i64 v73.1]) (cs:=[.bool (decide ((a1l s6 3)=0)),.int .i64 (l9 .i64 (s6+1)),
     .int .i64 (l9 .i64 ((l9 .i64 (s6+1))+1)),.int .i64 (l9 .i64 ((l9 .i64 ((l9 .i64 (s6+1))+1))+1)),
     .int .i64 (l9 .i64 ((l9 .i64 ((l9 .i64 ((l9 .i64 (s6+1))+1))+1))+1)),
     .int .i64 (l9 .i64 ((l9 .i64 ((l9 .i64 ((l9 .i64 ((l9 .i64 (s6+1))+1))+1))+1))+1)),v47,
     .int .i64 x33.Commit,.int .i64 x33.Match]) (o:=7) (cs':=[.bool (decide ((a1l s6 3)=0)),.int .i64 (l9 .i64 (s6+1)),
     .int .i64 (l9 .i64 ((l9 .i64 (s6+1))+1)),.int .i64 (l9 .i64 ((l9 .i64 ((l9 .i64 (s6+1))+1))+1)),
     .int .i64 (l9 .i64 ((l9 .i64 ((l9 .i64 ((l9 .i64 (s6+1))+1))+1))+1)),
     .int .i64 (l9 .i64 ((l9 .i64 ((l9 .i64 ((l9 .i64 ((l9 .i64 (s6+1))+1))+1))+1))+1)),v47,.int .i64 v73.1,
     .int .i64 x33.Match]) rfl hv72 rfl hx34 (s9 hS79) hW rfl rfl (nle rfl) rfl (fun c82 h80 hv83 hS81=>?_)
   simp only [qa,q45,qd,qc,qe,qq,qb,j8,q7b,f28,f30,zu,B0,reduceIte,a8]
   refine qf (a24 hv83 hx34) ?_
   simp only [ql,qb,n7,n8,n9,qu,zd,B0,reduceIte,a8]
   refine kx (n:=9) (us:=[.int .i64 (l9 .i64 (v73.1+1))]) (cs:=[.bool (decide ((a1l s6 3)=0)),.int .i64 (l9 .i64 (s6+1)),
     .int .i64 (l9 .i64 ((l9 .i64 (s6+1))+1)),.int .i64 (l9 .i64 ((l9 .i64 ((l9 .i64 (s6+1))+1))+1)),
     .int .i64 (l9 .i64 ((l9 .i64 ((l9 .i64 ((l9 .i64 (s6+1))+1))+1))+1)),
     .int .i64 (l9 .i64 ((l9 .i64 ((l9 .i64 ((l9 .i64 ((l9 .i64 (s6+1))+1))+1))+1))+1)),v47,.int .i64 v73.1,
     .int .i64 x33.Match]) (o:=8) (cs':=[.bool (decide ((a1l s6 3)=0)),.int .i64 (l9 .i64 (s6+1)),
     .int .i64 (l9 .i64 ((l9 .i64 (s6+1))+1)),.int .i64 (l9 .i64 ((l9 .i64 ((l9 .i64 (s6+1))+1))+1)),
     .int .i64 (l9 .i64 ((l9 .i64 ((l9 .i64 ((l9 .i64 (s6+1))+1))+1))+1)),
     .int .i64 (l9 .i64 ((l9 .i64 ((l9 .i64 ((l9 .i64 ((l9 .i64 (s6+1))+1))+1))+1))+1)),v47,.int .i64 v73.1,
     .int .i64 (l9 .i64 (v73.1+1))]) rfl hv83 rfl hx34 hS81 hW rfl rfl (nle rfl) rfl (fun c86 h84 hv87 hS85=>?_)
   simp only [qa,qc,qe,qq,qb,j8,kg,f30,qr,B0,reduceIte,a8]
   obtain ⟨c88,hv89,hS90⟩:=SlG.cls (e':=(Mail.mk (decide ((a1l s6 3)=0)) (l9 .i64 (s6+1)) (l9 .i64 ((l9 .i64 (s6+1))+1))
     (l9 .i64 ((l9 .i64 ((l9 .i64 (s6+1))+1))+1)) (l9 .i64 ((l9 .i64 ((l9 .i64 ((l9 .i64
     (s6+1))+1))+1))+1)) (l9 .i64 ((l9 .i64 ((l9 .i64 ((l9 .i64 ((l9 .i64
     (s6+1))+1))+1))+1))+1)) v73.2 v73.1 (l9 .i64 (v73.1+1)))) (c:=c86) (os:=c76) hv87 rfl hx34 zo (Mail.RI (x:=(Mail.mk (decide
     ((a1l s6 3)=0)) (l9 .i64 (s6+1)) (l9 .i64 ((l9 .i64 (s6+1))+1)) (l9 .i64 ((l9 .i64 ((l9 .i64
     (s6+1))+1))+1)) (l9 .i64 ((l9 .i64 ((l9 .i64 ((l9 .i64 (s6+1))+1))+1))+1)) (l9 .i64 ((l9 .i64
     ((l9 .i64 ((l9 .i64 ((l9 .i64 (s6+1))+1))+1))+1))+1)) v73.2 v73.1 (l9 .i64 (v73.1+1)))) hv77) (s9 (s9 hS85))
   have hx91:=jl (x':=(Mail.mk (decide ((a1l s6 3)=0)) (l9 .i64 (s6+1)) (l9 .i64 ((l9 .i64 (s6+1))+1)) (l9 .i64
     ((l9 .i64 ((l9 .i64 (s6+1))+1))+1)) (l9 .i64 ((l9 .i64 ((l9 .i64 ((l9 .i64 (s6+1))+1))+1))+1))
     (l9 .i64 ((l9 .i64 ((l9 .i64 ((l9 .i64 ((l9 .i64 (s6+1))+1))+1))+1))+1)) v73.2 v73.1 (l9 .i64
     (v73.1+1)))) hx34
   have hv92:=SlG.toN hv89
   have e93:=qg hF75
   exact hN20 _ _ _ e93.symm ⟨c88,f28,rfl,rfl,hv92,hS90⟩
  rw [iteF hc32] at hF17
  simp only [yn,yl,y8,B0,reduceIte,a8]
  have e94:=qg hF17
  exact hK21 _ _ _ e94.symm ⟨c9,f28,f29,f30,hv10,hS27⟩
 rintro ⟨s96,s97,s98⟩ fr101 h102 rfl ⟨c99,f104,f105,f106,hv100,hS103⟩
 dsimp only [jnO] at hk16
 dsimp only at *
 unfold qgi at hk16
 simp only [qd,qc,f105,qe,qa,qx,B0,reduceIte,a8]
 have he:=qg hk16
 subst he
 simp only [q9,B0,reduceIte,a8]
 exact ⟨c99,by first | trivial | rfl,hv100,hS103⟩
theorem ql1 {W:Nat→Bool}{h:Heap}{lo:Nat→Prop}{S0:List Obj} (hW:∀ b,
  lo b→W b=true) (k:Nat) (d6:Raft) (d4:XV) (f6:List Obj) (e9:SlN Peer.R 5 43 d4 d6.Peers f6) (d5:XV) (d7:List Obj)
  (e8:SlN Mail.R 9 86 d5 d6.Mail d7) (k_1:Int) (r:Int × Raft) (hF:qcn k d6 k_1=some r) (hS:Sep h lo (f6++(d7 ++
  (S0)))) : Ret E W 22 [.agg [d4,d5],.int .i64 k_1] h (fun v h'=>∃ ic0_0 ic0_1,
  v = .int .i64 r.1∧SlN Peer.R 5 43 d4 r.2.Peers ic0_0∧SlN Mail.R 9 86 d5 r.2.Mail ic0_1∧Sep h' lo (ic0_0++(ic0_1++(S0)))):=by
 refine Ret.of (fn:=x22) rfl (Run.of ?_)
 unfold qcn at hF
 have zf0:zf [.agg [d4,d5],.int .i64 k_1] 0 = .agg [d4,d5]:=rfl
 have zf1:zf [.agg [d4,d5],.int .i64 k_1] 1 = .int .i64 k_1:=rfl
 generalize zf [.agg [d4,d5],.int .i64 k_1]=fr0 at zf0 zf1 ⊢
 simp only [x22,qd,qc,kt,zf0,B0,reduceIte,a8]
 refine j0 (cs:=[d4,d5]) hS rfl rfl (qk (SlN.one e9) (qk (SlN.one e8) zl)) (fun b1 h2 hS3=>?_)
 simp only [qe,qa,B0,reduceIte,a8]
 refine z8 hS3 hW (by simp only [B0,reduceIte,a8]) (fun h5 hS6=>?_)
 simp only [z7,q77,qd,qc,ql,qb,n7,n8,n9,qn,qj,B0,reduceIte,a8]
 refine qf (v:=d4) rfl ?_
 obtain ⟨v7,hx8,hF9⟩:=qi hF
 simp only [zf1,qe,zp,B0,reduceIte,a8]
 refine qab rfl (qkp hW k d4 f6 d6.Peers e9 k_1 v7 hx8 hS6) ?_
 rintro _ h12 ⟨c10,rfl,hv11,hS13⟩
 simp only [qe,qa,q2v,qd,qc,ql,qb,n7,n8,n9,qn,qj,B0,reduceIte,a8]
 refine qf (v:=d5) rfl ?_
 obtain ⟨v14,hx15,hF16⟩:=qi hF9
 simp only [qe,zp,B0,reduceIte,a8]
 refine qab rfl (qk3 hW k d5 d7 d6.Mail e8 v7.1 v14 hx15 (s9 hS13)) ?_
 rintro _ h19 ⟨c17,rfl,hv18,hS20⟩
 simp only [qe,qa,qd,qc,qx,B0,reduceIte,a8]
 have he:=qg hF16
 subst he
 simp only [q9,B0,reduceIte,a8]
 exact ⟨c10,c17,by first | trivial | rfl,hv11,hv18,(s9 hS20)⟩
theorem qku {W:Nat→Bool}{h:Heap}{lo:Nat→Prop}{S0:List Obj} (hW:∀ b,
  lo b→W b=true) (k:Nat) (pv0:XV) (pc0:List Obj) (d6:List Bool) (ph0:SlF cB 1 4 pv0 d6 pc0) (k_1:Int) (r:Int × (List Bool))
  (hF:qb1 k d6 k_1=some r) (hS:Sep h lo (pc0++(S0))) : Ret E W 23 [pv0,.int .i64 k_1] h (fun v h'=>∃ ic0,
  v = .int .i64 r.1∧SlF cB 1 4 pv0 r.2 ic0∧Sep h' lo (ic0++(S0))):=by
 refine Ret.of (fn:=x23) rfl (Run.of ?_)
 unfold qb1 at hF
 have zf0:zf [pv0,.int .i64 k_1] 0=pv0:=rfl
 have zf1:zf [pv0,.int .i64 k_1] 1 = .int .i64 k_1:=rfl
 generalize zf [pv0,.int .i64 k_1]=fr0 at zf0 zf1 ⊢
 simp only [x23,qd,qc,qe,qa,q4q,B0,reduceIte,a8]
 obtain ⟨oc13,hX15,hk16⟩:=jz hF
 simp only [q5p]
 refine wg (σ:=Int × Int × (List Bool)) (fun s45=>u0 s45.1 s45.2.1 s45.2.2) (fun s fr' h'=>∃ c9,
   fr' 0=pv0∧fr' 1 = .int .i64 s.1∧fr' 5 = .int .i64 s.2.1∧SlF cB 1 4 pv0 s.2.2 c9∧Sep h' lo (c9++(S0))) hX15 ⟨pc0,zf0,zf1,rfl,ph0,hS⟩ (fun _ _ _ h=>h) ?_ ?_
 ·rintro ⟨s6,s7,s8⟩ fr25 h26 ⟨c9,f28,f29,f30,hv10,hS27⟩ oc14 hF17 hr18 Q19 hN20 hK21 hR22 hE23
  dsimp only at *
  unfold u0 at hF17
  simp only [q2z,qd,qc,f30,qe,f28,zr,qb,a1o hv10,qq,yg,qa,qv,B0,reduceIte,a8]
  refine qs (t:=(decide (s7<(o6 s8:Int)))) (fun hc32=>?_) (fun hc32=>?_)
  ·rw [iteT hc32] at hF17
   obtain ⟨x33,hx34,hF35⟩:=qi hF17
   simp only [qw,q2i,qd,j5,q6s,qc,f28,qe,f30,f29,qq,qb,qgz (n:=3) (by decide),yh,zu,B0,reduceIte,
     a8]
   obtain ⟨b36,hb37⟩:=a1w hv10 (jq hx34)
   refine qf (a2v hv10 hb37 hx34) ?_
   simp only [zd,B0,reduceIte,a8]
   refine uq (f:=cB) (x':=(decide ((a1l s6 3)=0))) (o:=0) hv10 hS27 hW hb37 hx34 (fun _=>rfl) rfl rfl (nle rfl) rfl (fun c40 h38 hv41 hS39=>?_)
   have hx42:=jl (x':=(decide ((a1l s6 3)=0))) hx34
   simp only [qa,qc,f29,qe,qq,qb,j8,kg,f30,qr,B0,reduceIte,a8]
   have e43:=qg hF35
   exact hN20 _ _ _ e43.symm ⟨c40,f28,rfl,rfl,hv41,hS39⟩
  rw [iteF hc32] at hF17
  simp only [yn,yl,y8,B0,reduceIte,a8]
  have e44:=qg hF17
  exact hK21 _ _ _ e44.symm ⟨c9,f28,f29,f30,hv10,hS27⟩
 rintro ⟨s46,s47,s48⟩ fr51 h52 rfl ⟨c49,f54,f55,f56,hv50,hS53⟩
 dsimp only [jnO] at hk16
 dsimp only at *
 unfold qgh at hk16
 simp only [qd,qc,f55,qe,qa,qx,B0,reduceIte,a8]
 have he:=qg hk16
 subst he
 simp only [q9,B0,reduceIte,a8]
 exact ⟨c49,by first | trivial | rfl,hv50,hS53⟩
theorem qgm {W:Nat→Bool}{h:Heap} (hW:∀ b,
  (geL h.length) b→W b=true) (k:Nat) (d6:List Entry) (k_1:Int) (r:Int) (hF:uk k d6 k_1=some r) : Ret E W 87 [lst qt d6,
  .int .i64 k_1] h (fun v h'=>cut h.length h' E.sz false 9 v=some (.int .i64 r)):=by
 refine Ret.of (fn:=x87) rfl (Run.of ?_)
 unfold uk at hF
 have zf0:zf [lst qt d6,.int .i64 k_1] 0=lst qt d6:=rfl
 have zf1:zf [lst qt d6,.int .i64 k_1] 1 = .int .i64 k_1:=rfl
 generalize zf [lst qt d6,.int .i64 k_1]=fr0 at zf0 zf1 ⊢
 have hS:Sep h (geL h.length) []:=a1x h
 simp only [x87,qd,qc,qe,qa,q3k,B0,reduceIte,a8]
 obtain ⟨oc7,hX9,hk10⟩:=jz hF
 simp only [q8x]
 refine wg (σ:=Int × Int) (fun s43=>x9 d6 s43.1 s43.2)
   (fun s fr' h'=>fr' 0=lst qt d6∧fr' 1 = .int .i64 s.1∧fr' 5 = .int .i64 s.2∧Sep h' (geL h.length) ([])) hX9 ⟨zf0,zf1,rfl,hS⟩ (fun _ _ _ h=>h) ?_ ?_
 ·rintro ⟨s3,s4⟩ fr19 h20 ⟨f22,f23,f24,hS21⟩ oc8 hF11 hr12 Q13 hN14 hK15 hR16 hE17
  dsimp only at *
  unfold x9 at hF11
  simp only [q9y,qd,qc,f24,qe,f22,zr,qb,ja,qq,yg,qa,qv,B0,reduceIte,a8]
  refine qs (t:=(decide (s4<(o6 d6:Int)))) (fun hc26=>?_) (fun hc26=>?_)
  ·rw [iteT hc26] at hF11
   obtain ⟨x27,hx28,hF29⟩:=qi hF11
   simp only [qw,q17,qd,j5,q57,qc,f22,qe,f24,zu,B0,reduceIte,a8]
   refine qf (v := .ref (qt x27) 0) (j9 hx28 rfl) ?_
   simp only [ql,qb,n7,n8,n9,qn,qj,B0,reduceIte,a8]
   refine qf (v := .int .i64 x27.Term) rfl ?_
   simp only [f23,qe,qq,qb,ya,qa,qv,B0,reduceIte,a8]
   refine qs (t:=(decide (x27.Term≠s3))) (fun hc30=>?_) (fun hc30=>?_)
   ·rw [iteT hc30] at hF29
    simp only [qd,qc,qe,qa,qx,B0,reduceIte,a8]
    have e31:=qg hF29
    subst e31
    have ho32:=hr12 _ rfl
    have hk33:=hk10
    rw [ho32] at hk33
    dsimp only [jnO] at hk33
    apply hR16
    have he:=qg hk33
    subst he
    simp only [q9,B0,reduceIte,a8]
    exact rfl
   rw [iteF hc30] at hF29
   obtain ⟨x34,hx35,hF36⟩:=qi hF29
   simp only [qw,q5o,qd,qc,f23,qe,qq,qb,j8,qa,q9z,f22,f24,zu,B0,reduceIte,a8]
   refine qf (v := .ref (qt x34) 0) (j9 hx35 rfl) ?_
   simp only [ql,qb,n7,n8,n9,qn,qj,B0,reduceIte,a8]
   refine qf (v := .int .i64 x34.Value) rfl ?_
   simp only [qe,qq,qb,ya,qa,qv,B0,reduceIte,a8]
   refine qs (t:=(decide (x34.Value≠(l9 .i64 (s3+1))))) (fun hc37=>?_) (fun hc37=>?_)
   ·rw [iteT hc37] at hF36
    simp only [qd,qc,qe,qa,qx,B0,reduceIte,a8]
    have e38:=qg hF36
    subst e38
    have ho39:=hr12 _ rfl
    have hk40:=hk10
    rw [ho39] at hk40
    dsimp only [jnO] at hk40
    apply hR16
    have he:=qg hk40
    subst he
    simp only [q9,B0,reduceIte,a8]
    exact rfl
   rw [iteF hc37] at hF36
   simp only [qw,qc,qe,qq,qb,j8,qa,kg,f24,qr,B0,reduceIte,a8]
   have e41:=qg hF36
   exact hN14 _ _ _ e41.symm ⟨f22,rfl,rfl,hS21⟩
  rw [iteF hc26] at hF11
  simp only [yn,yl,y8,B0,reduceIte,a8]
  have e42:=qg hF11
  exact hK15 _ _ _ e42.symm ⟨f22,f23,f24,hS21⟩
 rintro ⟨s44,s45⟩ fr46 h47 rfl ⟨f49,f50,f51,hS48⟩
 dsimp only [jnO] at hk10
 dsimp only at *
 unfold qf4 at hk10
 simp only [qd,qc,f50,qe,qa,qx,B0,reduceIte,a8]
 have he:=qg hk10
 subst he
 simp only [q9,B0,reduceIte,a8]
 exact rfl
theorem qli {W:Nat→Bool}{h:Heap} (hW:∀ b,
  (geL h.length) b→W b=true) (k:Nat) (d6:List Int) (k_1:Int) (r:Int) (hF:qco k d6 k_1=some r) : Ret E W 88 [lst cI d6,
  .int .i64 k_1] h (fun v h'=>cut h.length h' E.sz false 9 v=some (.int .i64 r)):=by
 refine Ret.of (fn:=x88) rfl (Run.of ?_)
 unfold qco at hF
 have zf0:zf [lst cI d6,.int .i64 k_1] 0=lst cI d6:=rfl
 have zf1:zf [lst cI d6,.int .i64 k_1] 1 = .int .i64 k_1:=rfl
 generalize zf [lst cI d6,.int .i64 k_1]=fr0 at zf0 zf1 ⊢
 have hS:Sep h (geL h.length) []:=a1x h
 simp only [x88,qd,qc,qe,qa,q4e,B0,reduceIte,a8]
 obtain ⟨oc7,hX9,hk10⟩:=jz hF
 simp only [q8l]
 refine wg (σ:=Int × Int) (fun s36=>qak d6 s36.1 s36.2) (fun s fr' h'=>fr' 0=lst cI d6∧fr' 1 = .int .i64 s.1∧fr' 5 = .int .i64 s.2∧Sep h'
   (geL h.length) ([])) hX9 ⟨zf0,zf1,rfl,hS⟩ (fun _ _ _ h=>h) ?_ ?_
 ·rintro ⟨s3,s4⟩ fr19 h20 ⟨f22,f23,f24,hS21⟩ oc8 hF11 hr12 Q13 hN14 hK15 hR16 hE17
  dsimp only at *
  unfold qak at hF11
  simp only [q87,qd,qc,f24,qe,f22,zr,qb,ja,qq,yg,qa,qv,B0,reduceIte,a8]
  refine qs (t:=(decide (s4<(o6 d6:Int)))) (fun hc26=>?_) (fun hc26=>?_)
  ·rw [iteT hc26] at hF11
   obtain ⟨x27,hx28,hF29⟩:=qi hF11
   simp only [qw,q7e,qd,j5,q6t,qc,f22,qe,f24,zu,B0,reduceIte,a8]
   refine qf (v := .ref (cI x27) 0) (j9 hx28 rfl) ?_
   simp only [qj,B0,reduceIte,a8]
   refine qf (v := .int .i64 x27) rfl ?_
   simp only [f23,qe,qq,qb,ya,qa,qv,B0,reduceIte,a8]
   refine qs (t:=(decide (x27≠s3))) (fun hc30=>?_) (fun hc30=>?_)
   ·rw [iteT hc30] at hF29
    simp only [qd,qc,qe,qa,qx,B0,reduceIte,a8]
    have e31:=qg hF29
    subst e31
    have ho32:=hr12 _ rfl
    have hk33:=hk10
    rw [ho32] at hk33
    dsimp only [jnO] at hk33
    apply hR16
    have he:=qg hk33
    subst he
    simp only [q9,B0,reduceIte,a8]
    exact rfl
   rw [iteF hc30] at hF29
   simp only [qw,qc,f23,qe,qq,qb,j8,qa,kg,f24,qr,B0,reduceIte,a8]
   have e34:=qg hF29
   exact hN14 _ _ _ e34.symm ⟨f22,rfl,rfl,hS21⟩
  rw [iteF hc26] at hF11
  simp only [yn,yl,y8,B0,reduceIte,a8]
  have e35:=qg hF11
  exact hK15 _ _ _ e35.symm ⟨f22,f23,f24,hS21⟩
 rintro ⟨s37,s38⟩ fr39 h40 rfl ⟨f42,f43,f44,hS41⟩
 dsimp only [jnO] at hk10
 dsimp only at *
 unfold qhh at hk10
 simp only [qd,qc,f43,qe,qa,qx,B0,reduceIte,a8]
 have he:=qg hk10
 subst he
 simp only [q9,B0,reduceIte,a8]
 exact rfl
theorem qk2 {W:Nat→Bool}{h:Heap} (hW:∀ b,
  (geL h.length) b→W b=true) (k:Nat) (d6:List Peer) (k_1:Int) (r:Int) (hF:qby k d6 k_1=some r) : Ret E W 58 [lst ze d6,
  .int .i64 k_1] h (fun v h'=>cut h.length h' E.sz false 9 v=some (.int .i64 r)):=by
 refine Ret.of (fn:=x58) rfl (Run.of ?_)
 unfold qby at hF
 have zf0:zf [lst ze d6,.int .i64 k_1] 0=lst ze d6:=rfl
 have zf1:zf [lst ze d6,.int .i64 k_1] 1 = .int .i64 k_1:=rfl
 generalize zf [lst ze d6,.int .i64 k_1]=fr0 at zf0 zf1 ⊢
 have hS:Sep h (geL h.length) []:=a1x h
 simp only [x58,qd,qc,qe,qa,qy3,B0,reduceIte,a8]
 obtain ⟨oc7,hX9,hk10⟩:=jz hF
 simp only [qzl]
 refine wg (σ:=Int × Int) (fun s70=>uz k d6 s70.1 s70.2)
   (fun s fr' h'=>fr' 0=lst ze d6∧fr' 1 = .int .i64 s.1∧fr' 5 = .int .i64 s.2∧Sep h' (geL h.length) ([])) hX9 ⟨zf0,zf1,rfl,hS⟩ (fun _ _ _ h=>h) ?_ ?_
 ·rintro ⟨s3,s4⟩ fr19 h20 ⟨f22,f23,f24,hS21⟩ oc8 hF11 hr12 Q13 hN14 hK15 hR16 hE17
  dsimp only at *
  unfold uz at hF11
  simp only [qse,qd,qc,f24,qe,f22,zr,qb,ja,qq,yg,qa,qv,B0,reduceIte,a8]
  refine qs (t:=(decide (s4<(o6 d6:Int)))) (fun hc26=>?_) (fun hc26=>?_)
  ·rw [iteT hc26] at hF11
   obtain ⟨x27,hx28,hF29⟩:=qi hF11
   simp only [qw,qwg,qd,j5,qso,qc,f22,qe,f24,zu,B0,reduceIte,a8]
   refine qf (v := .ref (ze x27) 0) (j9 hx28 rfl) ?_
   simp only [ql,qb,n7,n8,n9,qn,qj,B0,reduceIte,a8]
   refine qf (v := .int .i64 x27.Term) rfl ?_
   simp only [f23,qe,qq,qb,ya,qa,qv,B0,reduceIte,a8]
   refine qs (t:=(decide (x27.Term≠s3))) (fun hc30=>?_) (fun hc30=>?_)
   ·rw [iteT hc30] at hF29
    simp only [qd,qc,qe,qa,qx,B0,reduceIte,a8]
    have e31:=qg hF29
    subst e31
    have ho32:=hr12 _ rfl
    have hk33:=hk10
    rw [ho32] at hk33
    dsimp only [jnO] at hk33
    apply hR16
    have he:=qg hk33
    subst he
    simp only [q9,B0,reduceIte,a8]
    exact rfl
   rw [iteF hc30] at hF29
   obtain ⟨x34,hx35,hF36⟩:=qi hF29
   simp only [qw,q59,qd,qc,f23,qe,qq,qb,j8,qa,q1v,f22,f24,zu,B0,reduceIte,a8]
   refine qf (v := .ref (ze x34) 0) (j9 hx35 rfl) ?_
   simp only [ql,qb,n7,n8,n9,qn,qj,B0,reduceIte,a8]
   refine qf (v := .bool x34.Leads) rfl ?_
   simp only [qe,qq,qb,qgz (n:=3) (by decide),yh,qej,qe0,qa,qv,B0,reduceIte,a8]
   refine qs (t:=(!(x34.Leads == (decide ((a1l (l9 .i64 (s3+1)) 3)=0))))) (fun hc37=>?_) (fun hc37=>?_)
   ·rw [iteT hc37] at hF36
    simp only [qd,qc,qe,qa,qx,B0,reduceIte,a8]
    have e38:=qg hF36
    subst e38
    have ho39:=hr12 _ rfl
    have hk40:=hk10
    rw [ho39] at hk40
    dsimp only [jnO] at hk40
    apply hR16
    have he:=qg hk40
    subst he
    simp only [q9,B0,reduceIte,a8]
    exact rfl
   rw [iteF hc37] at hF36
   obtain ⟨x41,hx42,hF43⟩:=qi hF36
   simp only [qw,zad,qd,qc,qe,qq,qb,j8,qa,q3e,f22,f24,zu,B0,reduceIte,a8]
   refine qf (v := .ref (ze x41) 0) (j9 hx42 rfl) ?_
   simp only [ql,qb,n7,n8,n9,qn,qj,B0,reduceIte,a8]
   refine qf (v:=lst qt x41.Log) rfl ?_
   obtain ⟨v44,hx45,hF46⟩:=qi hF43
   simp only [qe,zp,B0,reduceIte,a8]
   refine kh rfl (qp jo (qp zg zm)) (qgm (fun b hb=>decide_eq_true hb) k x41.Log (l9 .i64 ((l9 .i64
     (s3+1))+1)) v44 hx45) ?_
   simp only [qe,qa,q2r,qd,qc,qq,qb,yg,qv,B0,reduceIte,a8]
   refine qs (t:=(decide (v44<0))) (fun hc47=>?_) (fun hc47=>?_)
   ·rw [iteT hc47] at hF46
    simp only [qd,qc,qe,qa,qx,B0,reduceIte,a8]
    have e48:=qg hF46
    subst e48
    have ho49:=hr12 _ rfl
    have hk50:=hk10
    rw [ho49] at hk50
    dsimp only [jnO] at hk50
    apply hR16
    have he:=qg hk50
    subst he
    simp only [q9,B0,reduceIte,a8]
    exact rfl
   rw [iteF hc47] at hF46
   obtain ⟨x51,hx52,hF53⟩:=qi hF46
   simp only [qw,q44,qd,qc,f22,qe,f24,zu,B0,reduceIte,a8]
   refine qf (v := .ref (ze x51) 0) (j9 hx52 rfl) ?_
   simp only [ql,qb,n7,n8,n9,qn,qj,B0,reduceIte,a8]
   refine qf (v := .int .i64 x51.Commit) rfl ?_
   simp only [qe,qq,qb,ya,qa,qv,B0,reduceIte,a8]
   refine qs (t:=(decide (x51.Commit≠v44))) (fun hc54=>?_) (fun hc54=>?_)
   ·rw [iteT hc54] at hF53
    simp only [qd,qc,qe,qa,qx,B0,reduceIte,a8]
    have e55:=qg hF53
    subst e55
    have ho56:=hr12 _ rfl
    have hk57:=hk10
    rw [ho56] at hk57
    dsimp only [jnO] at hk57
    apply hR16
    have he:=qg hk57
    subst he
    simp only [q9,B0,reduceIte,a8]
    exact rfl
   rw [iteF hc54] at hF53
   obtain ⟨x58,hx59,hF60⟩:=qi hF53
   simp only [qw,q9q,qd,qc,qe,qq,qb,j8,qa,q5a,f22,f24,zu,B0,reduceIte,a8]
   refine qf (v := .ref (ze x58) 0) (j9 hx59 rfl) ?_
   simp only [ql,qb,n7,n8,n9,qn,qj,B0,reduceIte,a8]
   refine qf (v:=lst cI x58.Match) rfl ?_
   obtain ⟨v61,hx62,hF63⟩:=qi hF60
   simp only [qe,zp,B0,reduceIte,a8]
   refine kh rfl (qp jo (qp zg zm)) (qli (fun b hb=>decide_eq_true hb) k x58.Match (l9 .i64 (v44+1)) v61 hx62) ?_
   simp only [qe,qa,q2k,qd,qc,qq,qb,yg,qv,B0,reduceIte,a8]
   refine qs (t:=(decide (v61<0))) (fun hc64=>?_) (fun hc64=>?_)
   ·rw [iteT hc64] at hF63
    simp only [qd,qc,qe,qa,qx,B0,reduceIte,a8]
    have e65:=qg hF63
    subst e65
    have ho66:=hr12 _ rfl
    have hk67:=hk10
    rw [ho66] at hk67
    dsimp only [jnO] at hk67
    apply hR16
    have he:=qg hk67
    subst he
    simp only [q9,B0,reduceIte,a8]
    exact rfl
   rw [iteF hc64] at hF63
   simp only [qw,kg,qc,f24,qe,qq,qb,j8,qa,qr,B0,reduceIte,a8]
   have e68:=qg hF63
   exact hN14 _ _ _ e68.symm ⟨f22,rfl,rfl,hS21⟩
  rw [iteF hc26] at hF11
  simp only [yn,yl,y8,B0,reduceIte,a8]
  have e69:=qg hF11
  exact hK15 _ _ _ e69.symm ⟨f22,f23,f24,hS21⟩
 rintro ⟨s71,s72⟩ fr73 h74 rfl ⟨f76,f77,f78,hS75⟩
 dsimp only [jnO] at hk10
 dsimp only at *
 unfold qgn at hk10
 simp only [qd,qc,f77,qe,qa,qx,B0,reduceIte,a8]
 have he:=qg hk10
 subst he
 simp only [q9,B0,reduceIte,a8]
 exact rfl
theorem qko {W:Nat→Bool}{h:Heap} (hW:∀ b,
  (geL h.length) b→W b=true) (k:Nat) (d8:List Mail) (a9:Int) (r:Int) (hF:qb7 k d8 a9=some r) : Ret E W 59 [lst zc d8,
  .int .i64 a9] h (fun v h'=>cut h.length h' E.sz false 9 v=some (.int .i64 r)):=by
 refine Ret.of (fn:=x59) rfl (Run.of ?_)
 unfold qb7 at hF
 have zf0:zf [lst zc d8,.int .i64 a9] 0=lst zc d8:=rfl
 have zf1:zf [lst zc d8,.int .i64 a9] 1 = .int .i64 a9:=rfl
 generalize zf [lst zc d8,.int .i64 a9]=fr0 at zf0 zf1 ⊢
 have hS:Sep h (geL h.length) []:=a1x h
 simp only [x59,qd,qc,qe,qa,qvf,B0,reduceIte,a8]
 obtain ⟨oc7,hX9,hk10⟩:=jz hF
 simp only [qwi]
 refine wg (σ:=Int × Int) (fun s95=>uu k d8 s95.1 s95.2)
   (fun s fr' h'=>fr' 0=lst zc d8∧fr' 1 = .int .i64 s.1∧fr' 5 = .int .i64 s.2∧Sep h' (geL h.length) ([])) hX9 ⟨zf0,zf1,rfl,hS⟩ (fun _ _ _ h=>h) ?_ ?_
 ·rintro ⟨s3,s4⟩ fr19 h20 ⟨f22,f23,f24,hS21⟩ oc8 hF11 hr12 Q13 hN14 hK15 hR16 hE17
  dsimp only at *
  unfold uu at hF11
  simp only [qzd,qd,qc,f24,qe,f22,zr,qb,ja,qq,yg,qa,qv,B0,reduceIte,a8]
  refine qs (t:=(decide (s4<(o6 d8:Int)))) (fun hc26=>?_) (fun hc26=>?_)
  ·rw [iteT hc26] at hF11
   obtain ⟨x27,hx28,hF29⟩:=qi hF11
   simp only [qw,qxi,qd,j5,qy0,qc,f22,qe,f24,zu,B0,reduceIte,a8]
   refine qf (v := .ref (zc x27) 0) (j9 hx28 rfl) ?_
   simp only [ql,qb,n7,n8,n9,qn,qj,B0,reduceIte,a8]
   refine qf (v := .bool x27.Reply) rfl ?_
   simp only [f23,qe,qq,qb,qgz (n:=3) (by decide),yh,qej,qe0,qa,qv,B0,reduceIte,a8]
   refine qs (t:=(!(x27.Reply == (decide ((a1l s3 3)=0))))) (fun hc30=>?_) (fun hc30=>?_)
   ·rw [iteT hc30] at hF29
    simp only [qd,qc,qe,qa,qx,B0,reduceIte,a8]
    have e31:=qg hF29
    subst e31
    have ho32:=hr12 _ rfl
    have hk33:=hk10
    rw [ho32] at hk33
    dsimp only [jnO] at hk33
    apply hR16
    have he:=qg hk33
    subst he
    simp only [q9,B0,reduceIte,a8]
    exact rfl
   rw [iteF hc30] at hF29
   obtain ⟨x34,hx35,hF36⟩:=qi hF29
   simp only [qw,qzs,qd,qc,f23,qe,qq,qb,j8,qa,qzm,f22,f24,zu,B0,reduceIte,a8]
   refine qf (v := .ref (zc x34) 0) (j9 hx35 rfl) ?_
   simp only [ql,qb,n7,n8,n9,qn,qj,B0,reduceIte,a8]
   refine qf (v := .int .i64 x34.From) rfl ?_
   simp only [qe,qq,qb,ya,qa,qv,B0,reduceIte,a8]
   refine qs (t:=(decide (x34.From≠(l9 .i64 (s3+1))))) (fun hc37=>?_) (fun hc37=>?_)
   ·rw [iteT hc37] at hF36
    simp only [qd,qc,qe,qa,qx,B0,reduceIte,a8]
    have e38:=qg hF36
    subst e38
    have ho39:=hr12 _ rfl
    have hk40:=hk10
    rw [ho39] at hk40
    dsimp only [jnO] at hk40
    apply hR16
    have he:=qg hk40
    subst he
    simp only [q9,B0,reduceIte,a8]
    exact rfl
   rw [iteF hc37] at hF36
   obtain ⟨x41,hx42,hF43⟩:=qi hF36
   simp only [qw,qs5,qd,qc,qe,qq,qb,j8,qa,qy4,f22,f24,zu,B0,reduceIte,a8]
   refine qf (v := .ref (zc x41) 0) (j9 hx42 rfl) ?_
   simp only [ql,qb,n7,n8,n9,qn,qj,B0,reduceIte,a8]
   refine qf (v := .int .i64 x41.To) rfl ?_
   simp only [qe,qq,qb,ya,qa,qv,B0,reduceIte,a8]
   refine qs (t:=(decide (x41.To≠(l9 .i64 ((l9 .i64 (s3+1))+1))))) (fun hc44=>?_) (fun hc44=>?_)
   ·rw [iteT hc44] at hF43
    simp only [qd,qc,qe,qa,qx,B0,reduceIte,a8]
    have e45:=qg hF43
    subst e45
    have ho46:=hr12 _ rfl
    have hk47:=hk10
    rw [ho46] at hk47
    dsimp only [jnO] at hk47
    apply hR16
    have he:=qg hk47
    subst he
    simp only [q9,B0,reduceIte,a8]
    exact rfl
   rw [iteF hc44] at hF43
   obtain ⟨x48,hx49,hF50⟩:=qi hF43
   simp only [qw,qtg,qd,qc,qe,qq,qb,j8,qa,qvs,f22,f24,zu,B0,reduceIte,a8]
   refine qf (v := .ref (zc x48) 0) (j9 hx49 rfl) ?_
   simp only [ql,qb,n7,n8,n9,qn,qj,B0,reduceIte,a8]
   refine qf (v := .int .i64 x48.Term) rfl ?_
   simp only [qe,qq,qb,ya,qa,qv,B0,reduceIte,a8]
   refine qs (t:=(decide (x48.Term≠(l9 .i64 ((l9 .i64 ((l9 .i64 (s3+1))+1))+1))))) (fun hc51=>?_) (fun hc51=>?_)
   ·rw [iteT hc51] at hF50
    simp only [qd,qc,qe,qa,qx,B0,reduceIte,a8]
    have e52:=qg hF50
    subst e52
    have ho53:=hr12 _ rfl
    have hk54:=hk10
    rw [ho53] at hk54
    dsimp only [jnO] at hk54
    apply hR16
    have he:=qg hk54
    subst he
    simp only [q9,B0,reduceIte,a8]
    exact rfl
   rw [iteF hc51] at hF50
   obtain ⟨x55,hx56,hF57⟩:=qi hF50
   simp only [qw,qzp,qd,qc,qe,qq,qb,j8,qa,q5i,f22,f24,zu,B0,reduceIte,a8]
   refine qf (v := .ref (zc x55) 0) (j9 hx56 rfl) ?_
   simp only [ql,qb,n7,n8,n9,qn,qj,B0,reduceIte,a8]
   refine qf (v := .int .i64 x55.Prev) rfl ?_
   simp only [qe,qq,qb,ya,qa,qv,B0,reduceIte,a8]
   refine qs (t:=(decide (x55.Prev≠(l9 .i64 ((l9 .i64 ((l9 .i64 ((l9 .i64 (s3+1))+1))+1))+1))))) (fun hc58=>?_)
     (fun hc58=>?_)
   ·rw [iteT hc58] at hF57
    simp only [qd,qc,qe,qa,qx,B0,reduceIte,a8]
    have e59:=qg hF57
    subst e59
    have ho60:=hr12 _ rfl
    have hk61:=hk10
    rw [ho60] at hk61
    dsimp only [jnO] at hk61
    apply hR16
    have he:=qg hk61
    subst he
    simp only [q9,B0,reduceIte,a8]
    exact rfl
   rw [iteF hc58] at hF57
   obtain ⟨x62,hx63,hF64⟩:=qi hF57
   simp only [qw,q29,qd,qc,qe,qq,qb,j8,qa,q6d,f22,f24,zu,B0,reduceIte,a8]
   refine qf (v := .ref (zc x62) 0) (j9 hx63 rfl) ?_
   simp only [ql,qb,n7,n8,n9,qn,qj,B0,reduceIte,a8]
   refine qf (v := .int .i64 x62.PTerm) rfl ?_
   simp only [qe,qq,qb,ya,qa,qv,B0,reduceIte,a8]
   refine qs (t:=(decide (x62.PTerm≠(l9 .i64 ((l9 .i64 ((l9 .i64 ((l9 .i64 ((l9 .i64
     (s3+1))+1))+1))+1))+1))))) (fun hc65=>?_) (fun hc65=>?_)
   ·rw [iteT hc65] at hF64
    simp only [qd,qc,qe,qa,qx,B0,reduceIte,a8]
    have e66:=qg hF64
    subst e66
    have ho67:=hr12 _ rfl
    have hk68:=hk10
    rw [ho67] at hk68
    dsimp only [jnO] at hk68
    apply hR16
    have he:=qg hk68
    subst he
    simp only [q9,B0,reduceIte,a8]
    exact rfl
   rw [iteF hc65] at hF64
   obtain ⟨x69,hx70,hF71⟩:=qi hF64
   simp only [qw,q92,qd,qc,qe,qq,qb,j8,qa,q48,f22,f24,zu,B0,reduceIte,a8]
   refine qf (v := .ref (zc x69) 0) (j9 hx70 rfl) ?_
   simp only [ql,qb,n7,n8,n9,qn,qj,B0,reduceIte,a8]
   refine qf (v:=lst qt x69.Entry) rfl ?_
   obtain ⟨v72,hx73,hF74⟩:=qi hF71
   simp only [qe,zp,B0,reduceIte,a8]
   refine kh rfl (qp jo (qp zg zm)) (qgm (fun b hb=>decide_eq_true hb) k x69.Entry (l9 .i64 ((l9 .i64
     ((l9 .i64 ((l9 .i64 ((l9 .i64 ((l9 .i64 (s3+1))+1))+1))+1))+1))+1)) v72 hx73) ?_
   simp only [qe,qa,q84,qd,qc,qq,qb,yg,qv,B0,reduceIte,a8]
   refine qs (t:=(decide (v72<0))) (fun hc75=>?_) (fun hc75=>?_)
   ·rw [iteT hc75] at hF74
    simp only [qd,qc,qe,qa,qx,B0,reduceIte,a8]
    have e76:=qg hF74
    subst e76
    have ho77:=hr12 _ rfl
    have hk78:=hk10
    rw [ho77] at hk78
    dsimp only [jnO] at hk78
    apply hR16
    have he:=qg hk78
    subst he
    simp only [q9,B0,reduceIte,a8]
    exact rfl
   rw [iteF hc75] at hF74
   obtain ⟨x79,hx80,hF81⟩:=qi hF74
   simp only [qw,q26,qd,qc,f22,qe,f24,zu,B0,reduceIte,a8]
   refine qf (v := .ref (zc x79) 0) (j9 hx80 rfl) ?_
   simp only [ql,qb,n7,n8,n9,qn,qj,B0,reduceIte,a8]
   refine qf (v := .int .i64 x79.Commit) rfl ?_
   simp only [qe,qq,qb,ya,qa,qv,B0,reduceIte,a8]
   refine qs (t:=(decide (x79.Commit≠v72))) (fun hc82=>?_) (fun hc82=>?_)
   ·rw [iteT hc82] at hF81
    simp only [qd,qc,qe,qa,qx,B0,reduceIte,a8]
    have e83:=qg hF81
    subst e83
    have ho84:=hr12 _ rfl
    have hk85:=hk10
    rw [ho84] at hk85
    dsimp only [jnO] at hk85
    apply hR16
    have he:=qg hk85
    subst he
    simp only [q9,B0,reduceIte,a8]
    exact rfl
   rw [iteF hc82] at hF81
   obtain ⟨x86,hx87,hF88⟩:=qi hF81
   simp only [qw,q4h,qd,qc,qe,qq,qb,j8,qa,q88,f22,f24,zu,B0,reduceIte,a8]
   refine qf (v := .ref (zc x86) 0) (j9 hx87 rfl) ?_
   simp only [ql,qb,n7,n8,n9,qn,qj,B0,reduceIte,a8]
   refine qf (v := .int .i64 x86.Match) rfl ?_
   simp only [qe,qq,qb,ya,qa,qv,B0,reduceIte,a8]
   refine qs (t:=(decide (x86.Match≠(l9 .i64 (v72+1))))) (fun hc89=>?_) (fun hc89=>?_)
   ·rw [iteT hc89] at hF88
    simp only [qd,qc,qe,qa,qx,B0,reduceIte,a8]
    have e90:=qg hF88
    subst e90
    have ho91:=hr12 _ rfl
    have hk92:=hk10
    rw [ho91] at hk92
    dsimp only [jnO] at hk92
    apply hR16
    have he:=qg hk92
    subst he
    simp only [q9,B0,reduceIte,a8]
    exact rfl
   rw [iteF hc89] at hF88
   simp only [qw,qc,qe,qq,qb,j8,qa,kg,f24,qr,B0,reduceIte,a8]
   have e93:=qg hF88
   exact hN14 _ _ _ e93.symm ⟨f22,rfl,rfl,hS21⟩
  rw [iteF hc26] at hF11
  simp only [yn,yl,y8,B0,reduceIte,a8]
  have e94:=qg hF11
  exact hK15 _ _ _ e94.symm ⟨f22,f23,f24,hS21⟩
 rintro ⟨s96,s97⟩ fr98 h99 rfl ⟨f101,f102,f103,hS100⟩
 dsimp only [jnO] at hk10
 dsimp only at *
 unfold qgj at hk10
 simp only [qd,qc,f102,qe,qa,qx,B0,reduceIte,a8]
 have he:=qg hk10
 subst he
 simp only [q9,B0,reduceIte,a8]
 exact rfl
theorem qhp {W:Nat→Bool}{h:Heap} (hW:∀ b,
  (geL h.length) b→W b=true) (k:Nat) (d6:Raft) (k_1:Int) (r:Int) (hF:qaw k d6 k_1=some r) : Ret E W 24 [.agg [lst ze d6.Peers,
  lst zc d6.Mail],.int .i64 k_1] h (fun v h'=>cut h.length h' E.sz false 9 v=some (.int .i64 r)):=by
 refine Ret.of (fn:=x24) rfl (Run.of ?_)
 unfold qaw at hF
 have zf0:zf [.agg [lst ze d6.Peers,lst zc d6.Mail],.int .i64 k_1] 0 = .agg [lst ze d6.Peers,lst zc d6.Mail]:=rfl
 have zf1:zf [.agg [lst ze d6.Peers,lst zc d6.Mail],.int .i64 k_1] 1 = .int .i64 k_1:=rfl
 generalize zf [.agg [lst ze d6.Peers,lst zc d6.Mail],.int .i64 k_1]=fr0 at zf0 zf1 ⊢
 have hS:Sep h (geL h.length) []:=a1x h
 simp only [x24,qd,qc,kt,zf0,B0,reduceIte,a8]
 refine j0 (cs:=[lst ze d6.Peers,lst zc d6.Mail]) hS rfl rfl rfl (fun b1 h2 hS3=>?_)
 simp only [qe,qa,B0,reduceIte,a8]
 refine z8 hS3 hW (by simp only [B0,reduceIte,a8]) (fun h5 hS6=>?_)
 simp only [z7,q9p,qd,qc,ql,qb,n7,n8,n9,qn,qj,B0,reduceIte,a8]
 refine qf (v:=lst ze d6.Peers) rfl ?_
 obtain ⟨v7,hx8,hF9⟩:=qi hF
 simp only [zf1,qe,zp,B0,reduceIte,a8]
 refine kh rfl (qp jo (qp zg zm)) (qk2 (fun b hb=>decide_eq_true hb) k d6.Peers k_1 v7 hx8) ?_
 simp only [qe,qa,q3f,qd,qc,qq,qb,yg,qv,B0,reduceIte,a8]
 refine qs (t:=(decide (v7<0))) (fun hc10=>?_) (fun hc10=>?_)
 ·rw [iteT hc10] at hF9
  simp only [qd,qc,qe,qa,qx,B0,reduceIte,a8]
  have he:=qg hF9
  subst he
  simp only [q9,B0,reduceIte,a8]
  exact rfl
 rw [iteF hc10] at hF9
 simp only [qw,q4t,qd,qc,ql,qb,n7,n8,n9,qn,qj,B0,reduceIte,a8]
 refine qf (v:=lst zc d6.Mail) rfl ?_
 obtain ⟨v11,hx12,hF13⟩:=qi hF9
 simp only [qe,zp,B0,reduceIte,a8]
 refine kh rfl (qp jo (qp zg zm)) (qko (fun b hb=>decide_eq_true hb) k d6.Mail v7 v11 hx12) ?_
 simp only [qe,qa,q4w,qd,qc,qq,qb,yg,qv,B0,reduceIte,a8]
 refine qs (t:=(decide (v11<0))) (fun hc14=>?_) (fun hc14=>?_)
 ·rw [iteT hc14] at hF13
  simp only [qd,qc,qe,qa,qx,B0,reduceIte,a8]
  have he:=qg hF13
  subst he
  simp only [q9,B0,reduceIte,a8]
  exact rfl
 rw [iteF hc14] at hF13
 simp only [qw,qd,qc,qe,qa,qx,B0,reduceIte,a8]
 have he:=qg hF13
 subst he
 simp only [q9,B0,reduceIte,a8]
 exact rfl
theorem qg0 {W:Nat→Bool}{h:Heap} (hW:∀ b,
  (geL h.length) b→W b=true) (k:Nat) (d6:List Bool) (k_1:Int) (r:Int) (hF:qad k d6 k_1=some r) : Ret E W 25 [lst cB d6,
  .int .i64 k_1] h (fun v h'=>cut h.length h' E.sz false 9 v=some (.int .i64 r)):=by
 refine Ret.of (fn:=x25) rfl (Run.of ?_)
 unfold qad at hF
 have zf0:zf [lst cB d6,.int .i64 k_1] 0=lst cB d6:=rfl
 have zf1:zf [lst cB d6,.int .i64 k_1] 1 = .int .i64 k_1:=rfl
 generalize zf [lst cB d6,.int .i64 k_1]=fr0 at zf0 zf1 ⊢
 have hS:Sep h (geL h.length) []:=a1x h
 simp only [x25,qd,qc,qe,qa,q7w,B0,reduceIte,a8]
 obtain ⟨oc7,hX9,hk10⟩:=jz hF
 simp only [q5b]
 refine wg (σ:=Int × Int) (fun s36=>ux d6 s36.1 s36.2) (fun s fr' h'=>fr' 0=lst cB d6∧fr' 1 = .int .i64 s.1∧fr' 5 = .int .i64 s.2∧Sep h'
   (geL h.length) ([])) hX9 ⟨zf0,zf1,rfl,hS⟩ (fun _ _ _ h=>h) ?_ ?_
 ·rintro ⟨s3,s4⟩ fr19 h20 ⟨f22,f23,f24,hS21⟩ oc8 hF11 hr12 Q13 hN14 hK15 hR16 hE17
  dsimp only at *
  unfold ux at hF11
  simp only [q5g,qd,qc,f24,qe,f22,zr,qb,ja,qq,yg,qa,qv,B0,reduceIte,a8]
  refine qs (t:=(decide (s4<(o6 d6:Int)))) (fun hc26=>?_) (fun hc26=>?_)
  ·rw [iteT hc26] at hF11
   obtain ⟨x27,hx28,hF29⟩:=qi hF11
   simp only [qw,q94,qd,j5,q8y,qc,f22,qe,f24,zu,B0,reduceIte,a8]
   refine qf (v := .ref (cB x27) 0) (j9 hx28 rfl) ?_
   simp only [qj,B0,reduceIte,a8]
   refine qf (v := .bool x27) rfl ?_
   simp only [f23,qe,qq,qb,qgz (n:=3) (by decide),yh,qej,qe0,qa,qv,B0,reduceIte,a8]
   refine qs (t:=(!(x27 == (decide ((a1l s3 3)=0))))) (fun hc30=>?_) (fun hc30=>?_)
   ·rw [iteT hc30] at hF29
    simp only [qd,qc,qe,qa,qx,B0,reduceIte,a8]
    have e31:=qg hF29
    subst e31
    have ho32:=hr12 _ rfl
    have hk33:=hk10
    rw [ho32] at hk33
    dsimp only [jnO] at hk33
    apply hR16
    have he:=qg hk33
    subst he
    simp only [q9,B0,reduceIte,a8]
    exact rfl
   rw [iteF hc30] at hF29
   simp only [qw,qc,f23,qe,qq,qb,j8,qa,kg,f24,qr,B0,reduceIte,a8]
   have e34:=qg hF29
   exact hN14 _ _ _ e34.symm ⟨f22,rfl,rfl,hS21⟩
  rw [iteF hc26] at hF11
  simp only [yn,yl,y8,B0,reduceIte,a8]
  have e35:=qg hF11
  exact hK15 _ _ _ e35.symm ⟨f22,f23,f24,hS21⟩
 rintro ⟨s37,s38⟩ fr39 h40 rfl ⟨f42,f43,f44,hS41⟩
 dsimp only [jnO] at hk10
 dsimp only at *
 unfold qgl at hk10
 simp only [qd,qc,f43,qe,qa,qx,B0,reduceIte,a8]
 have he:=qg hk10
 subst he
 simp only [q9,B0,reduceIte,a8]
 exact rfl
end Go.Proofs.Ytanblnjomhgphaa.X
