/- The functions' code comes to what the plain functions say (6). -/
import Derived.Test.YtpddolihbnfahaaXCH5
set_option linter.unusedVariables false
set_option linter.unusedSimpArgs false
set_option maxRecDepth 100000
namespace Go.Proofs.Ytpddolihbnfahaa.X
open Go
open Nat (reduceEqDiff)
theorem qk9 {W:Nat→Bool}{h:Heap} (hW:∀ b,
  (geL h.length) b→W b=true) (e_0:Election) (m_1:Letter) (r:Bool) (hF:qeq e_0 m_1=some r) : Ret E W 61 [.agg [lst qi e_0.Servers,
  lst qe e_0.Post,lst ql e_0.Led],.agg [.int .i64 m_1.To,.int .i64 m_1.From,.int .i64 m_1.Term,.bool m_1.Asks,.int .i64 m_1.Last,.int .i64 m_1.Long,
  .bool m_1.Grant]] h (fun v h'=>cut h.length h' E.sz false 9 v=some (.bool r)):=by
 refine Ret.of (fn:=x61) rfl (Run.of ?_)
 unfold qeq at hF
 have zf0:zh [.agg [lst qi e_0.Servers,lst qe e_0.Post,lst ql e_0.Led],.agg [.int .i64 m_1.To,.int .i64 m_1.From,.int .i64 m_1.Term,
   .bool m_1.Asks,.int .i64 m_1.Last,.int .i64 m_1.Long,.bool m_1.Grant]] 0 = .agg [lst qi e_0.Servers,lst qe e_0.Post,lst ql e_0.Led]:=rfl
 have zf1:zh [.agg [lst qi e_0.Servers,lst qe e_0.Post,lst ql e_0.Led],.agg [.int .i64 m_1.To,.int .i64 m_1.From,.int .i64 m_1.Term,
   .bool m_1.Asks,.int .i64 m_1.Last,.int .i64 m_1.Long,.bool m_1.Grant]] 1 = .agg [.int .i64 m_1.To,.int .i64 m_1.From,.int .i64 m_1.Term,.bool m_1.Asks,
   .int .i64 m_1.Last,.int .i64 m_1.Long,.bool m_1.Grant]:=rfl
 generalize zh [.agg [lst qi e_0.Servers,lst qe e_0.Post,lst ql e_0.Led],.agg [.int .i64 m_1.To,.int .i64 m_1.From,.int .i64 m_1.Term,
   .bool m_1.Asks,.int .i64 m_1.Last,.int .i64 m_1.Long,.bool m_1.Grant]]=fr0 at zf0 zf1 ⊢
 have hS:Sep h (geL h.length) []:=Sep.nil h
 simp only [x61,qg,qf,kc,zf0,B0,reduceIte,reduceEqDiff]
 refine jo (cs:=[lst qi e_0.Servers,lst qe e_0.Post,lst ql e_0.Led]) hS rfl rfl rfl (fun b1 h2 hS3=>?_)
 simp only [kc,zf1,B0,reduceIte,reduceEqDiff]
 refine jo (cs:=[.int .i64 m_1.To,.int .i64 m_1.From,.int .i64 m_1.Term,.bool m_1.Asks,.int .i64 m_1.Last,.int .i64 m_1.Long,
   .bool m_1.Grant]) hS3 rfl rfl rfl (fun b5 h6 hS7=>?_)
 simp only [qd,qa,B0,reduceIte,reduceEqDiff]
 refine zy (Sep.m1 hS7) hW (by simp only [B0,reduceIte,reduceEqDiff]) (fun h9 hS10=>?_)
 refine zy hS10 hW (by simp only [B0,reduceIte,reduceEqDiff]) (fun h11 hS12=>?_)
 simp only [zv,q2v,qg,jv,ja,B0,reduceIte,reduceEqDiff]
 refine qw (v := .agg [lst qi e_0.Servers,lst qe e_0.Post,lst ql e_0.Led]) rfl ?_
 simp only [jc,qr,Nat.reduceAdd,Nat.zero_add,Nat.add_zero,qu,ja,B0,reduceIte,reduceEqDiff]
 refine qw (v := .int .i64 m_1.To) rfl ?_
 simp only [yf,B0,reduceIte,reduceEqDiff]
 refine qdc rfl (qm (jm (qm zm (qm zm (qm zm qz)))) (qm zb qz)) (qbc
   (fun b hb=>decide_eq_true hb) e_0 m_1.To _ rfl) ?_
 simp only [qi6,qr,j9,jf,B0,reduceIte,reduceEqDiff]
 simp only [zc (g:=10),B0,reduceIte,reduceEqDiff]
 refine k7 (t:=(!(jp e_0 m_1.To))) (fun hg13=>?_) (fun hg13=>?_)
 ·rw [iteT hg13] at hF
  simp only [hg13,zc (g:=10),xd,kr,qr,zj,jf,zc (g:=17),zc (g:=24),zn,ze,qez,
    qg,qf,qd,qa,za,B0,reduceIte,reduceEqDiff]
  have he:=qk hF
  subst he
  simp only [zp,B0,reduceIte,reduceEqDiff]
  exact rfl
 rw [iteF hg13] at hF
 simp only [hg13,zc (g:=10),zu,ja,B0,reduceIte,reduceEqDiff]
 refine qw (v := .agg [lst qi e_0.Servers,lst qe e_0.Post,lst ql e_0.Led]) rfl ?_
 simp only [hg13,zc (g:=10),zu,jc,qr,Nat.reduceAdd,Nat.zero_add,Nat.add_zero,qu,ja,B0,reduceIte,reduceEqDiff]
 refine qw (v := .int .i64 m_1.From) rfl ?_
 simp only [hg13,zc (g:=10),zu,yf,B0,reduceIte,reduceEqDiff]
 refine qdc rfl (qm (jm (qm zm (qm zm (qm zm qz)))) (qm zb qz)) (qbc
   (fun b hb=>decide_eq_true hb) e_0 m_1.From _ rfl) ?_
 simp only [hg13,zc (g:=10),zu,qi6,qr,j9,kr,zk,jf,B0,reduceIte,reduceEqDiff]
 refine qfv 6 (fun fr' h'=>Sep h' (geL h.length) ([])∧fr' 23 = .bool ((!(jp e_0 m_1.From))||(decide
   (m_1.To=m_1.From)))∧fr' 2 = .ref [lst qi e_0.Servers,lst qe e_0.Post,lst ql e_0.Led] 0∧fr' 3 = .ref [.int .i64 m_1.To,
   .int .i64 m_1.From,.int .i64 m_1.Term,.bool m_1.Asks,.int .i64 m_1.Last,.int .i64 m_1.Long,.bool m_1.Grant] 0) rfl (fun Q14 hN15=>?_) ?_
 ·simp only [List.take_succ_cons,List.take_zero]
  simp only [zc (g:=17),B0,reduceIte,reduceEqDiff]
  refine k7 (t:=(!(jp e_0 m_1.From))) (fun hg16=>?_) (fun hg16=>?_)
  ·simp only [hg16,zc (g:=17),xd,kr,qr,zj,zn,qn,B0,reduceIte,reduceEqDiff]
   exact hN15 _ _ ⟨hS12,by rw [orT hg16]; simp only [B0,reduceIte,reduceEqDiff],rfl,rfl⟩
  ·simp only [hg16,zc (g:=17),zu,jc,qr,Nat.reduceAdd,Nat.zero_add,Nat.add_zero,qu,ja,B0,reduceIte,reduceEqDiff]
   refine qw (v := .int .i64 m_1.To) rfl ?_
   simp only [hg16,zc (g:=17),zu,jc,qr,Nat.reduceAdd,Nat.zero_add,Nat.add_zero,qu,ja,B0,reduceIte,reduceEqDiff]
   refine qw (v := .int .i64 m_1.From) rfl ?_
   simp only [hg16,zc (g:=17),zu,uv,qr,yh,kr,zk,zn,qn,B0,reduceIte,reduceEqDiff]
   exact hN15 _ _ ⟨hS12,by rw [orF hg16]; simp only [B0,reduceIte,reduceEqDiff],rfl,rfl⟩
 rintro fr17 h21 ⟨hS22,f18,f19,f20⟩
 simp only [List.drop_succ_cons,List.drop_zero]
 simp only [f18,jf,qr,B0,reduceIte,reduceEqDiff]
 simp only [zc (g:=24),B0,reduceIte,reduceEqDiff]
 refine k7 (t:=((!(jp e_0 m_1.From))||(decide (m_1.To=m_1.From)))) (fun hg23=>?_) (fun hg23=>?_)
 ·rw [iteT hg23] at hF
  simp only [hg23,zc (g:=24),xd,kr,qr,zj,zn,ze,qez,qg,qf,qd,qa,za,B0,
    reduceIte,reduceEqDiff]
  have he:=qk hF
  subst he
  simp only [zp,B0,reduceIte,reduceEqDiff]
  exact rfl
 rw [iteF hg23] at hF
 simp only [hg23,zc (g:=24),zu,f20,jc,qr,Nat.reduceAdd,Nat.zero_add,Nat.add_zero,qu,ja,B0,reduceIte,reduceEqDiff]
 refine qw (v := .int .i64 m_1.Term) rfl ?_
 simp only [hg23,zc (g:=24),zu,f19,jc,qr,Nat.reduceAdd,Nat.zero_add,Nat.add_zero,qu,ja,B0,reduceIte,reduceEqDiff]
 refine qw (v:=lst qi e_0.Servers) rfl ?_
 simp only [hg23,zc (g:=24),zu,f20,jc,qr,Nat.reduceAdd,Nat.zero_add,Nat.add_zero,qu,ja,B0,reduceIte,reduceEqDiff]
 refine qw (v := .int .i64 m_1.From) rfl ?_
 obtain ⟨x24,hx25,hF26⟩:=qj hF
 simp only [hg23,zc (g:=24),zu,qee,B0,reduceIte,reduceEqDiff]
 refine qw (v := .ref (qi x24) 0) (yl hx25 rfl) ?_
 simp only [hg23,zc (g:=24),zu,jc,qr,Nat.reduceAdd,Nat.zero_add,Nat.add_zero,qu,ja,B0,reduceIte,reduceEqDiff]
 refine qw (v := .int .i64 x24.Term) rfl ?_
 simp only [hg23,zc (g:=24),zu,yf,B0,reduceIte,reduceEqDiff]
 refine qdc rfl (qm zb (qm zb (qm zb qz))) (u7 (fun b hb=>decide_eq_true hb) m_1.Term 0 x24.Term _ rfl) ?_
 simp only [hg23,zc (g:=24),zu,qi6,qr,j9,kr,zk,zn,ze,B0,reduceIte,reduceEqDiff]
 refine zf (t:=(!(jd m_1.Term 0 x24.Term))) (fun hc27=>?_) (fun hc27=>?_)
 ·rw [iteT hc27] at hF26
  simp only [qg,qf,qd,qa,za,B0,reduceIte,reduceEqDiff]
  have he:=qk hF26
  subst he
  simp only [zp,B0,reduceIte,reduceEqDiff]
  exact rfl
 rw [iteF hc27] at hF26
 simp only [zi,q26,qg,qf,f20,qt,qb,Nat.reduceAdd,Nat.zero_add,Nat.add_zero,qu,qo,B0,reduceIte,reduceEqDiff]
 refine qh (v := .bool m_1.Asks) rfl ?_
 simp only [qa,q0w,ze,B0,reduceIte,reduceEqDiff]
 refine zf (t:=m_1.Asks) (fun hc28=>?_) (fun hc28=>?_)
 ·rw [iteT hc28] at hF26
  simp only [q4m,qg,qf,f20,qt,qb,Nat.reduceAdd,Nat.zero_add,Nat.add_zero,qu,qo,B0,reduceIte,reduceEqDiff]
  refine qh (v := .bool m_1.Grant) rfl ?_
  simp only [jj,qb,j9,qd,B0,reduceIte,reduceEqDiff]
  refine z7 4 (fun fr' h'=>Sep h' (geL h.length) ([])∧fr' 46 = .bool ((!m_1.Grant)&&(jd m_1.Last (-1) 100))∧fr' 3 = .ref [.int .i64 m_1.To,.int .i64 m_1.From,
    .int .i64 m_1.Term,.bool m_1.Asks,.int .i64 m_1.Last,.int .i64 m_1.Long,.bool m_1.Grant] 0) (fun Q29 hN30=>?_) ?_
  ·simp only [List.take_succ_cons,List.take_zero]
   simp only [qc (g:=42),B0,reduceIte,reduceEqDiff]
   refine qy (t:=(!m_1.Grant)) (fun hg31=>?_) (fun hg31=>?_)
   ·simp only [hg31,qc (g:=42),zg,f20,qt,qb,Nat.reduceAdd,Nat.zero_add,Nat.add_zero,qu,qo,B0,reduceIte,reduceEqDiff]
    refine qh (v := .int .i64 m_1.Last) rfl ?_
    simp only [hg31,qc (g:=42),zg,qv,B0,reduceIte,reduceEqDiff]
    refine je rfl (qm zb (qm zb (qm zb qz))) (u7 (fun b hb=>decide_eq_true hb) m_1.Last (-1) 100 _ rfl) ?_
    simp only [hg31,qs,qb,zj,qa,qn,B0,reduceIte,reduceEqDiff]
    exact hN30 _ _ ⟨hS22,by rw [xl hg31]; simp only [B0,reduceIte,reduceEqDiff],f20⟩
   ·simp only [hg31,qc (g:=42),jl,qs,qb,zk,qa,qn,B0,reduceIte,reduceEqDiff]
    exact hN30 _ _ ⟨hS22,by rw [xm hg31]; simp only [B0,reduceIte,reduceEqDiff],f20⟩
  rintro fr32 h35 ⟨hS36,f33,f34⟩
  simp only [List.drop_succ_cons,List.drop_zero]
  simp only [f33,qd,B0,reduceIte,reduceEqDiff]
  refine z7 4 (fun fr' h'=>Sep h' (geL h.length) ([])∧fr' 51 = .bool (((!m_1.Grant)&&(jd m_1.Last (-1) 100))&&(jd m_1.Long 0 30)))
    (fun Q37 hN38=>?_) ?_
  ·simp only [List.take_succ_cons,List.take_zero]
   simp only [qc (g:=47),B0,reduceIte,reduceEqDiff]
   refine qy (t:=((!m_1.Grant)&&(jd m_1.Last (-1) 100))) (fun hg39=>?_) (fun hg39=>?_)
   ·simp only [hg39,qc (g:=47),zg,f34,qt,qb,Nat.reduceAdd,Nat.zero_add,Nat.add_zero,qu,qo,B0,reduceIte,reduceEqDiff]
    refine qh (v := .int .i64 m_1.Long) rfl ?_
    simp only [hg39,qc (g:=47),zg,qv,B0,reduceIte,reduceEqDiff]
    refine je rfl (qm zb (qm zb (qm zb qz))) (u7 (fun b hb=>decide_eq_true hb) m_1.Long 0 30 _ rfl) ?_
    simp only [hg39,qs,qb,zj,qa,qn,B0,reduceIte,reduceEqDiff]
    exact hN38 _ _ ⟨hS36,by rw [xl hg39]; simp only [B0,reduceIte,reduceEqDiff]⟩
   ·simp only [hg39,qc (g:=47),jl,qs,qb,zk,qa,qn,B0,reduceIte,reduceEqDiff]
    exact hN38 _ _ ⟨hS36,by rw [xm hg39]; simp only [B0,reduceIte,reduceEqDiff]⟩
  rintro fr40 h42 ⟨hS43,f41⟩
  simp only [List.drop_succ_cons,List.drop_zero]
  simp only [f41,qd,qa,za,B0,reduceIte,reduceEqDiff]
  have he:=qk hF26
  subst he
  simp only [zp,B0,reduceIte,reduceEqDiff]
  exact rfl
 rw [iteF hc28] at hF26
 simp only [zi,q6v,qg,qf,f20,qt,qb,Nat.reduceAdd,Nat.zero_add,Nat.add_zero,qu,qo,B0,reduceIte,reduceEqDiff]
 refine qh (v := .int .i64 m_1.Last) rfl ?_
 simp only [qx,qb,yh,qd,B0,reduceIte,reduceEqDiff]
 refine z7 4 (fun fr' h'=>Sep h' (geL h.length) ([])∧fr' 59 = .bool ((decide (m_1.Last=0))&&(decide (m_1.Long=0)))) (fun Q44 hN45=>?_) ?_
 ·simp only [List.take_succ_cons,List.take_zero]
  simp only [qc (g:=55),B0,reduceIte,reduceEqDiff]
  refine qy (t:=(decide (m_1.Last=0))) (fun hg46=>?_) (fun hg46=>?_)
  ·simp only [hg46,qc (g:=55),zg,f20,qt,qb,Nat.reduceAdd,Nat.zero_add,Nat.add_zero,qu,qo,B0,reduceIte,reduceEqDiff]
   refine qh (v := .int .i64 m_1.Long) rfl ?_
   simp only [hg46,qc (g:=55),zg,qx,qb,yh,qs,zj,qa,qn,B0,reduceIte,reduceEqDiff]
   exact hN45 _ _ ⟨hS22,by rw [xl hg46]; simp only [B0,reduceIte,reduceEqDiff]⟩
  ·simp only [hg46,qc (g:=55),jl,qs,qb,zk,qa,qn,B0,reduceIte,reduceEqDiff]
   exact hN45 _ _ ⟨hS22,by rw [xm hg46]; simp only [B0,reduceIte,reduceEqDiff]⟩
 rintro fr47 h49 ⟨hS50,f48⟩
 simp only [List.drop_succ_cons,List.drop_zero]
 simp only [f48,qd,qa,za,B0,reduceIte,reduceEqDiff]
 have he:=qk hF26
 subst he
 simp only [zp,B0,reduceIte,reduceEqDiff]
 exact rfl
theorem ut {W:Nat→Bool}{h:Heap} (hW:∀ b,
  (geL h.length) b→W b=true) (v_0:Election) (r:Bool) (hF:yp v_0=some r) : Ret E W 18 [.agg [lst qi v_0.Servers,lst qe v_0.Post,
  lst ql v_0.Led]] h (fun v h'=>cut h.length h' E.sz false 9 v=some (.bool r)):=by
 refine Ret.of (fn:=x18) rfl (Run.of ?_)
 unfold yp at hF
 have zf0:zh [.agg [lst qi v_0.Servers,lst qe v_0.Post,lst ql v_0.Led]] 0 = .agg [lst qi v_0.Servers,lst qe v_0.Post,
   lst ql v_0.Led]:=rfl
 generalize zh [.agg [lst qi v_0.Servers,lst qe v_0.Post,lst ql v_0.Led]]=fr0 at zf0 ⊢
 have hS:Sep h (geL h.length) []:=Sep.nil h
 simp only [x18,qg,qf,kc,zf0,B0,reduceIte,reduceEqDiff]
 refine jo (cs:=[lst qi v_0.Servers,lst qe v_0.Post,lst ql v_0.Led]) hS rfl rfl rfl (fun b1 h2 hS3=>?_)
 simp only [qd,qa,B0,reduceIte,reduceEqDiff]
 refine zy hS3 hW (by simp only [B0,reduceIte,reduceEqDiff]) (fun h5 hS6=>?_)
 simp only [zv,qx4,qg,qf,qt,qb,Nat.reduceAdd,Nat.zero_add,Nat.add_zero,qu,qo,B0,reduceIte,reduceEqDiff]
 refine qh (v:=lst qi v_0.Servers) rfl ?_
 simp only [zr,qb,zx,qd,qa,B0,reduceIte,reduceEqDiff]
 obtain ⟨oc9,hX11,hk12⟩:=kn hF
 simp only [q00]
 refine wb (σ:=Unit) v_0.Servers (fun i7 x8 _=>qba v_0 i7 x8 ) (fun s fr' h'=>fr' 1 = .ref [lst qi v_0.Servers,lst qe v_0.Post,
   lst ql v_0.Led] 0∧fr' 10=lst qi v_0.Servers∧Sep h' (geL h.length) ([])) hX11 ⟨rfl,rfl,hS6⟩ (by simp only [B0,reduceIte,
   reduceEqDiff]) (by simp only [B0,reduceIte,reduceEqDiff]) (fun _ _ _ h=>h) rfl rfl (fun _ _ _ _ h=>h) (fun _ _ _ _ h=>h) (fun _ _ _ _ h=>h) (by decide) ?_ ?_
 ·rintro i7 x8 _ fr21 h22 hx26 ⟨f24,f25,hS23⟩ f27 f28 oc10 hF13 hr14 Q15 hN16 hB20 hK17 hR18 hE19
  unfold qba at hF13
  simp only [q33,qg,qf,f25,f27,jr,B0,reduceIte,reduceEqDiff]
  refine qh (v := .ref (qi x8) 0) (wc hx26 rfl) ?_
  simp only [qo,B0,reduceIte,reduceEqDiff]
  refine qh (v := .agg [.int .i64 x8.Term,.int .i64 x8.Voted,.bool x8.Stands,.bool x8.Leads,lst cI x8.Got,lst cI x8.Log]) rfl ?_
  simp only [jg,B0,reduceIte,reduceEqDiff]
  refine zw hS23 (fun b29 h30 hS31=>?_)
  simp only [zl,B0,reduceIte,reduceEqDiff]
  refine q9 (us:=[.int .i64 x8.Term,.int .i64 x8.Voted,.bool x8.Stands,.bool x8.Leads,lst cI x8.Got,lst cI x8.Log]) rfl (cs':=[.int .i64 x8.Term,
    .int .i64 x8.Voted,.bool x8.Stands,.bool x8.Leads,lst cI x8.Got,lst cI x8.Log]) hS31 hW rfl rfl (nle rfl) rfl (fun h33 hS34=>?_)
  simp only [qa,B0,reduceIte,reduceEqDiff]
  refine zy hS34 hW (by simp only [B0,reduceIte,reduceEqDiff]) (fun h35 hS36=>?_)
  simp only [zv,q4k,qg,qf,f24,qo,B0,reduceIte,reduceEqDiff]
  refine qh (v := .agg [lst qi v_0.Servers,lst qe v_0.Post,lst ql v_0.Led]) rfl ?_
  simp only [qo,B0,reduceIte,reduceEqDiff]
  refine qh (v := .agg [.int .i64 x8.Term,.int .i64 x8.Voted,.bool x8.Stands,.bool x8.Leads,lst cI x8.Got,lst cI x8.Log]) rfl ?_
  obtain ⟨v37,hx38,hF39⟩:=qj hF13
  simp only [qv,B0,reduceIte,reduceEqDiff]
  refine je rfl (qm (jm (qm zm (qm zm (qm zm qz)))) (qm (jm (qm zb (qm zb (qm qe1 (qm qe1
    (qm zm (qm zm qz))))))) qz)) (qlg (fun b hb=>decide_eq_true hb) v_0 x8 v37 hx38) ?_
  simp only [jj,qb,j9,qa,ze,B0,reduceIte,reduceEqDiff]
  refine zf (t:=(!v37)) (fun hc40=>?_) (fun hc40=>?_)
  ·rw [iteT hc40] at hF39
   simp only [qg,qf,qd,qa,za,B0,reduceIte,reduceEqDiff]
   have e41:=qk hF39
   subst e41
   have ho42:=hr14 _ rfl
   have hk43:=hk12
   rw [ho42] at hk43
   dsimp only [jnO] at hk43
   apply hR18
   have he:=qk hk43
   subst he
   simp only [zp,B0,reduceIte,reduceEqDiff]
   exact rfl
  rw [iteF hc40] at hF39
  simp only [zi,qn,B0,reduceIte,reduceEqDiff]
  have e44:=qk hF39
  exact hN16 _ _ _ e44.symm ⟨f24,f25,hS36⟩ (f27) (f28)
 rintro _ fr46 h47 rfl ⟨f49,f50,hS48⟩
 dsimp only [jnO] at hk12
 unfold qc6 at hk12
 simp only [qwp,qg,qf,f49,qt,qb,Nat.reduceAdd,Nat.zero_add,Nat.add_zero,qu,qo,B0,reduceIte,reduceEqDiff]
 refine qh (v:=lst qe v_0.Post) rfl ?_
 simp only [zr,qb,zx,qd,qa,B0,reduceIte,reduceEqDiff]
 obtain ⟨oc53,hX55,hk56⟩:=kn hk12
 simp only [q3v]
 refine wb (σ:=Unit) v_0.Post (fun i51 x52 _=>qa6 v_0 i51 x52 ) (fun s fr' h'=>fr' 1 = .ref [lst qi v_0.Servers,lst qe v_0.Post,
   lst ql v_0.Led] 0∧fr' 22=lst qe v_0.Post∧Sep h' (geL h.length) ([])) hX55 ⟨f49,rfl,hS48⟩ (by simp only [B0,reduceIte,
   reduceEqDiff]) (by simp only [B0,reduceIte,reduceEqDiff]) (fun _ _ _ h=>h) rfl rfl (fun _ _ _ _ h=>h) (fun _ _ _ _ h=>h) (fun _ _ _ _ h=>h) (by decide) ?_ ?_
 ·rintro i51 x52 _ fr65 h66 hx70 ⟨f68,f69,hS67⟩ f71 f72 oc54 hF57 hr58 Q59 hN60 hB64 hK61 hR62 hE63
  unfold qa6 at hF57
  simp only [q66,qg,qf,f69,f71,jr,B0,reduceIte,reduceEqDiff]
  refine qh (v := .ref (qe x52) 0) (wc hx70 rfl) ?_
  simp only [qo,B0,reduceIte,reduceEqDiff]
  refine qh (v := .agg [.int .i64 x52.To,.int .i64 x52.From,.int .i64 x52.Term,.bool x52.Asks,.int .i64 x52.Last,.int .i64 x52.Long,.bool x52.Grant]) rfl ?_
  simp only [jg,B0,reduceIte,reduceEqDiff]
  refine zw hS67 (fun b73 h74 hS75=>?_)
  simp only [zl,B0,reduceIte,reduceEqDiff]
  refine q9 (us:=[.int .i64 x52.To,.int .i64 x52.From,.int .i64 x52.Term,.bool x52.Asks,.int .i64 x52.Last,.int .i64 x52.Long,
    .bool x52.Grant]) rfl (cs':=[.int .i64 x52.To,.int .i64 x52.From,.int .i64 x52.Term,.bool x52.Asks,.int .i64 x52.Last,.int .i64 x52.Long,
    .bool x52.Grant]) hS75 hW rfl rfl (nle rfl) rfl (fun h77 hS78=>?_)
  simp only [qa,B0,reduceIte,reduceEqDiff]
  refine zy hS78 hW (by simp only [B0,reduceIte,reduceEqDiff]) (fun h79 hS80=>?_)
  simp only [zv,q23,qg,qf,f68,qo,B0,reduceIte,reduceEqDiff]
  refine qh (v := .agg [lst qi v_0.Servers,lst qe v_0.Post,lst ql v_0.Led]) rfl ?_
  simp only [qo,B0,reduceIte,reduceEqDiff]
  refine qh (v := .agg [.int .i64 x52.To,.int .i64 x52.From,.int .i64 x52.Term,.bool x52.Asks,.int .i64 x52.Last,.int .i64 x52.Long,.bool x52.Grant]) rfl ?_
  obtain ⟨v81,hx82,hF83⟩:=qj hF57
  simp only [qv,B0,reduceIte,reduceEqDiff]
  refine je rfl (qm (jm (qm zm (qm zm (qm zm qz)))) (qm (jm (qm zb (qm zb (qm zb (qm qe1
    (qm zb (qm zb (qm qe1 qz)))))))) qz)) (qk9 (fun b hb=>decide_eq_true hb) v_0 x52 v81 hx82) ?_
  simp only [jj,qb,j9,qa,ze,B0,reduceIte,reduceEqDiff]
  refine zf (t:=(!v81)) (fun hc84=>?_) (fun hc84=>?_)
  ·rw [iteT hc84] at hF83
   simp only [qg,qf,qd,qa,za,B0,reduceIte,reduceEqDiff]
   have e85:=qk hF83
   subst e85
   have ho86:=hr58 _ rfl
   have hk87:=hk56
   rw [ho86] at hk87
   dsimp only [jnO] at hk87
   apply hR62
   have he:=qk hk87
   subst he
   simp only [zp,B0,reduceIte,reduceEqDiff]
   exact rfl
  rw [iteF hc84] at hF83
  simp only [zi,qn,B0,reduceIte,reduceEqDiff]
  have e88:=qk hF83
  exact hN60 _ _ _ e88.symm ⟨f68,f69,hS80⟩ (f71) (f72)
 rintro _ fr90 h91 rfl ⟨f93,f94,hS92⟩
 dsimp only [jnO] at hk56
 unfold qda at hk56
 simp only [qwn,qg,qf,f93,qt,qb,Nat.reduceAdd,Nat.zero_add,Nat.add_zero,qu,qo,B0,reduceIte,reduceEqDiff]
 refine qh (v:=lst ql v_0.Led) rfl ?_
 simp only [zr,qb,zx,qd,qa,B0,reduceIte,reduceEqDiff]
 obtain ⟨oc97,hX99,hk100⟩:=kn hk56
 simp only [qwl]
 refine wb (σ:=Unit) v_0.Led (fun i95 x96 _=>qa8 v_0 i95 x96 ) (fun s fr' h'=>fr' 1 = .ref [lst qi v_0.Servers,lst qe v_0.Post,
   lst ql v_0.Led] 0∧fr' 34=lst ql v_0.Led∧Sep h' (geL h.length) ([])) hX99 ⟨f93,rfl,hS92⟩ (by simp only [B0,reduceIte,
   reduceEqDiff]) (by simp only [B0,reduceIte,reduceEqDiff]) (fun _ _ _ h=>h) rfl rfl (fun _ _ _ _ h=>h) (fun _ _ _ _ h=>h) (fun _ _ _ _ h=>h) (by decide) ?_ ?_
 ·rintro i95 x96 _ fr109 h110 hx114 ⟨f112,f113,hS111⟩ f115 f116 oc98 hF101 hr102 Q103 hN104 hB108 hK105 hR106 hE107
  unfold qa8 at hF101
  simp only [qs5,qg,qf,f113,f115,jr,B0,reduceIte,reduceEqDiff]
  refine qh (v := .ref (ql x96) 0) (wc hx114 rfl) ?_
  simp only [qo,B0,reduceIte,reduceEqDiff]
  refine qh (v := .agg [.int .i64 x96.Term,.int .i64 x96.Leader]) rfl ?_
  simp only [jg,B0,reduceIte,reduceEqDiff]
  refine zw hS111 (fun b117 h118 hS119=>?_)
  simp only [zl,B0,reduceIte,reduceEqDiff]
  refine q9 (us:=[.int .i64 x96.Term,.int .i64 x96.Leader]) rfl (cs':=[.int .i64 x96.Term,
    .int .i64 x96.Leader]) hS119 hW rfl rfl (nle rfl) rfl (fun h121 hS122=>?_)
  simp only [qa,B0,reduceIte,reduceEqDiff]
  refine zy hS122 hW (by simp only [B0,reduceIte,reduceEqDiff]) (fun h123 hS124=>?_)
  simp only [zv,q1x,qg,qf,qt,qb,Nat.reduceAdd,Nat.zero_add,Nat.add_zero,qu,qo,B0,reduceIte,reduceEqDiff]
  refine qh (v := .int .i64 x96.Term) rfl ?_
  simp only [qv,B0,reduceIte,reduceEqDiff]
  refine je rfl (qm zb (qm zb (qm zb qz))) (u7 (fun b hb=>decide_eq_true hb) x96.Term 0 100 _ rfl) ?_
  simp only [jj,qb,j9,qd,B0,reduceIte,reduceEqDiff]
  refine z7 6 (fun fr' h'=>Sep h' (geL h.length) ([])∧fr' 50 = .bool ((!(jd x96.Term 0 100)) ||
    (!(jp v_0 x96.Leader)))∧fr' 1 = .ref [lst qi v_0.Servers,lst qe v_0.Post,
    lst ql v_0.Led] 0∧fr' 34=lst ql v_0.Led∧fr' 35 = .int .i64 (List.length v_0.Led:Int)∧fr' 36 = .int .i64 (i95:Int)) (fun Q125 hN126=>?_) ?_
  ·simp only [List.take_succ_cons,List.take_zero]
   simp only [qc (g:=44),B0,reduceIte,reduceEqDiff]
   refine qy (t:=(!(jd x96.Term 0 100))) (fun hg127=>?_) (fun hg127=>?_)
   ·simp only [hg127,qc (g:=44),zq,qs,qb,zj,qa,qn,B0,reduceIte,reduceEqDiff]
    exact hN126 _ _ ⟨hS124,by rw [orT hg127]; simp only [B0,reduceIte,reduceEqDiff],f112,f113,f116,f115⟩
   ·simp only [hg127,qc (g:=44),qp,f112,qo,B0,reduceIte,reduceEqDiff]
    refine qh (v := .agg [lst qi v_0.Servers,lst qe v_0.Post,lst ql v_0.Led]) rfl ?_
    simp only [hg127,qc (g:=44),qp,qt,qb,Nat.reduceAdd,Nat.zero_add,Nat.add_zero,qu,qo,B0,reduceIte,reduceEqDiff]
    refine qh (v := .int .i64 x96.Leader) rfl ?_
    simp only [hg127,qc (g:=44),qp,qv,B0,reduceIte,reduceEqDiff]
    refine je rfl (qm (jm (qm zm (qm zm (qm zm qz)))) (qm zb qz)) (qbc
      (fun b hb=>decide_eq_true hb) v_0 x96.Leader _ rfl) ?_
    simp only [hg127,qc (g:=44),qp,jj,qb,j9,qs,zk,qa,qn,B0,reduceIte,reduceEqDiff]
    exact hN126 _ _ ⟨hS124,by rw [orF hg127]; simp only [B0,reduceIte,reduceEqDiff],f112,f113,f116,f115⟩
  rintro fr128 h134 ⟨hS135,f129,f130,f131,f132,f133⟩
  simp only [List.drop_succ_cons,List.drop_zero]
  simp only [qa,f129,ze,B0,reduceIte,reduceEqDiff]
  refine zf (t:=((!(jd x96.Term 0 100))||(!(jp v_0 x96.Leader)))) (fun hc136=>?_) (fun hc136=>?_)
  ·rw [iteT hc136] at hF101
   simp only [qg,qf,qd,qa,za,B0,reduceIte,reduceEqDiff]
   have e137:=qk hF101
   subst e137
   have ho138:=hr102 _ rfl
   have hk139:=hk100
   rw [ho138] at hk139
   dsimp only [jnO] at hk139
   apply hR106
   have he:=qk hk139
   subst he
   simp only [zp,B0,reduceIte,reduceEqDiff]
   exact rfl
  rw [iteF hc136] at hF101
  simp only [zi,qn,B0,reduceIte,reduceEqDiff]
  have e140:=qk hF101
  exact hN104 _ _ _ e140.symm ⟨f130,f131,hS135⟩ (f133) (f132)
 rintro _ fr142 h143 rfl ⟨f145,f146,hS144⟩
 dsimp only [jnO] at hk100
 unfold qfm at hk100
 simp only [qsg,qg,qf,f145,qt,qb,Nat.reduceAdd,Nat.zero_add,Nat.add_zero,qu,qo,B0,reduceIte,reduceEqDiff]
 refine qh (v:=lst qi v_0.Servers) rfl ?_
 simp only [zr,qb,zx,qv,B0,reduceIte,reduceEqDiff]
 refine je rfl (qm zb (qm zb (qm zb qz))) (u7 (fun b hb=>decide_eq_true hb) (List.length v_0.Servers:Int) 1 5 _ rfl) ?_
 simp only [qd,B0,reduceIte,reduceEqDiff]
 refine z7 5 (fun fr' h'=>Sep h' (geL h.length) ([])∧fr' 61 = .bool ((jd (List.length v_0.Servers:Int) 1 5)&&(decide
   ((List.length v_0.Post:Int)≤20)))∧fr' 1 = .ref [lst qi v_0.Servers,lst qe v_0.Post,lst ql v_0.Led] 0) (fun Q147 hN148=>?_) ?_
 ·simp only [List.take_succ_cons,List.take_zero]
  simp only [qc (g:=56),B0,reduceIte,reduceEqDiff]
  refine qy (t:=(jd (List.length v_0.Servers:Int) 1 5)) (fun hg149=>?_) (fun hg149=>?_)
  ·simp only [hg149,qc (g:=56),zg,f145,qt,qb,Nat.reduceAdd,Nat.zero_add,Nat.add_zero,qu,qo,B0,reduceIte,reduceEqDiff]
   refine qh (v:=lst qe v_0.Post) rfl ?_
   simp only [hg149,qc (g:=56),zg,zr,qb,zx,qx,qju,qs,zj,qa,qn,B0,reduceIte,reduceEqDiff]
   exact hN148 _ _ ⟨hS144,by rw [xl hg149]; simp only [B0,reduceIte,reduceEqDiff],f145⟩
  ·simp only [hg149,qc (g:=56),jl,qs,qb,zk,qa,qn,B0,reduceIte,reduceEqDiff]
   exact hN148 _ _ ⟨hS144,by rw [xm hg149]; simp only [B0,reduceIte,reduceEqDiff],f145⟩
 rintro fr150 h153 ⟨hS154,f151,f152⟩
 simp only [List.drop_succ_cons,List.drop_zero]
 simp only [f151,qd,B0,reduceIte,reduceEqDiff]
 refine z7 5 (fun fr' h'=>Sep h' (geL h.length) ([])∧fr' 67 = .bool (((jd (List.length v_0.Servers:Int) 1 5)&&(decide ((List.length v_0.Post:Int)≤20))) &&
   (decide ((List.length v_0.Led:Int)≤80)))) (fun Q155 hN156=>?_) ?_
 ·simp only [List.take_succ_cons,List.take_zero]
  simp only [qc (g:=62),B0,reduceIte,reduceEqDiff]
  refine qy (t:=((jd (List.length v_0.Servers:Int) 1 5)&&(decide ((List.length v_0.Post:Int)≤20)))) (fun hg157=>?_) (fun hg157=>?_)
  ·simp only [hg157,qc (g:=62),zg,f152,qt,qb,Nat.reduceAdd,Nat.zero_add,Nat.add_zero,qu,qo,B0,reduceIte,reduceEqDiff]
   refine qh (v:=lst ql v_0.Led) rfl ?_
   simp only [hg157,qc (g:=62),zg,zr,qb,zx,qx,qju,qs,zj,qa,qn,B0,reduceIte,reduceEqDiff]
   exact hN156 _ _ ⟨hS154,by rw [xl hg157]; simp only [B0,reduceIte,reduceEqDiff]⟩
  ·simp only [hg157,qc (g:=62),jl,qs,qb,zk,qa,qn,B0,reduceIte,reduceEqDiff]
   exact hN156 _ _ ⟨hS154,by rw [xm hg157]; simp only [B0,reduceIte,reduceEqDiff]⟩
 rintro fr158 h160 ⟨hS161,f159⟩
 simp only [List.drop_succ_cons,List.drop_zero]
 simp only [f159,qd,qa,za,B0,reduceIte,reduceEqDiff]
 have he:=qk hk100
 subst he
 simp only [zp,B0,reduceIte,reduceEqDiff]
 exact rfl
theorem qjd {W:Nat→Bool}{h:Heap} (hW:∀ b,
  (geL h.length) b→W b=true) (k:Nat) (e_0:Election) (x_1:ElectStep) (r:Election × Bool)
  (hF:qav k e_0 x_1=some r) : Ret E W 17 [.agg [lst qi e_0.Servers,lst qe e_0.Post,lst ql e_0.Led],.agg [.int .i64 x_1.Term,
  .int .i64 x_1.Leader]] h (fun v h'=>∃ rv0_0 rc0_0 rv0_1 rc0_1 rv0_2 rc0_2,v = .tup [.agg [rv0_0,rv0_1,rv0_2],
  .bool r.2]∧SlN Server.R 6 46 rv0_0 r.1.Servers rc0_0∧SlF qe 7 93 rv0_1 r.1.Post rc0_1∧SlF ql 2 39 rv0_2 r.1.Led rc0_2∧Sep h' (geL h.length)
  (rc0_0++(rc0_1++(rc0_2++([]))))):=by
 refine Ret.of (fn:=x17) rfl (Run.of ?_)
 unfold qav at hF
 have zf0:zh [.agg [lst qi e_0.Servers,lst qe e_0.Post,lst ql e_0.Led],.agg [.int .i64 x_1.Term,
   .int .i64 x_1.Leader]] 0 = .agg [lst qi e_0.Servers,lst qe e_0.Post,lst ql e_0.Led]:=rfl
 have zf1:zh [.agg [lst qi e_0.Servers,lst qe e_0.Post,lst ql e_0.Led],.agg [.int .i64 x_1.Term,
   .int .i64 x_1.Leader]] 1 = .agg [.int .i64 x_1.Term,.int .i64 x_1.Leader]:=rfl
 generalize zh [.agg [lst qi e_0.Servers,lst qe e_0.Post,lst ql e_0.Led],.agg [.int .i64 x_1.Term,.int .i64 x_1.Leader]]=fr0 at zf0 zf1 ⊢
 have hS:Sep h (geL h.length) []:=Sep.nil h
 simp only [x17,qg,qf,kc,zf0,B0,reduceIte,reduceEqDiff]
 refine jo (cs:=[lst qi e_0.Servers,lst qe e_0.Post,lst ql e_0.Led]) hS rfl rfl rfl (fun b1 h2 hS3=>?_)
 simp only [kc,zf1,B0,reduceIte,reduceEqDiff]
 refine jo (cs:=[.int .i64 x_1.Term,.int .i64 x_1.Leader]) hS3 rfl rfl rfl (fun b5 h6 hS7=>?_)
 simp only [jg,B0,reduceIte,reduceEqDiff]
 refine zw hS7 (fun b9 h10 hS11=>?_)
 simp only [qd,qa,B0,reduceIte,reduceEqDiff]
 refine zy (Sep.m2 hS11) hW (by simp only [B0,reduceIte,reduceEqDiff]) (fun h13 hS14=>?_)
 refine zy (Sep.m1 hS14) hW (by simp only [B0,reduceIte,reduceEqDiff]) (fun h15 hS16=>?_)
 simp only [zv,q6w,qg,qf,qo,B0,reduceIte,reduceEqDiff]
 refine qh (v := .agg [lst qi e_0.Servers,lst qe e_0.Post,lst ql e_0.Led]) rfl ?_
 obtain ⟨v17,hx18,hF19⟩:=qj hF
 simp only [qv,B0,reduceIte,reduceEqDiff]
 refine je rfl (qm (jm (qm zm (qm zm (qm zm qz)))) qz) (ut (fun b hb=>decide_eq_true hb) e_0 v17 hx18) ?_
 simp only [jj,qb,j9,qa,q0r,ze,B0,reduceIte,reduceEqDiff]
 refine zf (t:=(!v17)) (fun hc20=>?_) (fun hc20=>?_)
 ·rw [iteT hc20] at hF19
  simp only [qg,qf,run_build,evp,B0,reduceIte,reduceEqDiff]
  refine qh (v := .agg [.nil,.nil,.nil]) rfl ?_
  simp only [zl,B0,reduceIte,reduceEqDiff]
  refine q9 (us:=[.nil,.nil,.nil]) rfl (cs':=[.nil,.nil,.nil]) hS16 hW rfl rfl (nle rfl) rfl (fun h21 hS22=>?_)
  simp only [qd,qa,za,B0,reduceIte,reduceEqDiff]
  have he:=qk hF19
  subst he
  refine jt (qm (j6 (bb:=b9) (oo:=0) (v := .agg [.nil,.nil,
    .nil]) (rfl) ((zz (Sep.bk _ _ _ hS22)).trans rfl)) (qm (yn (v := .bool false) (rfl)) qz)) ?_
  exact ⟨.nil,[],.nil,[],.nil,[],by first | trivial | rfl,SlN.nil,SlF.nil,SlF.nil,((Sep.dc (hS22)) : Sep _ (geL h.length) ([]))⟩
 rw [iteF hc20] at hF19
 simp only [zi,q3z,qg,jv,qk4,B0,reduceIte,reduceEqDiff]
 refine qgz hS16 (fun b23 h24 hS25=>?_)
 simp only [ja,B0,reduceIte,reduceEqDiff]
 refine qw (v := .agg [lst qi e_0.Servers,lst qe e_0.Post,lst ql e_0.Led]) rfl ?_
 obtain ⟨v27,hx28,hF29⟩:=qj hF19
 simp only [ua,B0,reduceIte,reduceEqDiff]
 refine qwv rfl hS25 (qm (jm (qm zm (qm zm (qm zm qz)))) qz) (qff (fun b hb=>decide_eq_true hb) e_0 v27 hx28) ?_
 rintro _ h42 ⟨v30,c31,v34,c35,v38,c39,rfl,hv32,hv36,hv40,hS43⟩
 refine ⟨_,qjp (qq (SlN.free1 hv32) (qq (SlF.free1 hv36) (qq (SlF.free1 hv40) zo))),hS43,
   (jq (SlN.pf hv32 Server.RO) (jq (SlF.pf hv36 (fun _=>rfl)) (jq (SlF.pf hv40 (fun _=>rfl)) uf))),fun h44 hS45=>?_⟩
 have hS46:Sep h44 (geL h.length) (c31++(c35++(c39++([Blk1 b23 [.nil,.nil,.nil] 31]++([Blk1 b9 [.nil,.nil,
   .nil] 31]++([])))))):=by simpa only [List.append_assoc,List.nil_append] using hS45
 simp only [ue,qcp,B0,reduceIte,reduceEqDiff]
 refine qw (v := .agg [.int .i64 x_1.Term,.int .i64 x_1.Leader]) rfl ?_
 obtain ⟨v47,hx48,hF49⟩:=qj hF29
 simp only [yf,B0,reduceIte,reduceEqDiff]
 refine qnm rfl (qjb hW k v27 v30 c31 hv32 v34 c35 hv36 v38 c39 hv40 x_1 v47 hx48 (Sep.m2 (Sep.m2 (Sep.m2 hS46)))) ?_
 rintro _ h60 ⟨c50,v52,c53,v56,c57,rfl,hv51,hv54,hv58,hS61⟩
 simp only [jf,qr,qnv,yz,quw,yy,qbm,B0,reduceIte,reduceEqDiff]
 refine wa (us:=[v30,v52,v56]) rfl (cs':=[v30,v52,
   v56]) (Sep.m3 hS61) hW rfl (qq (SlN.one hv51) (qq (SlF.one hv54) (qq (SlF.one hv58) zo))) (nle rfl) rfl (fun h62 hS63=>?_)
 simp only [jf,qr,zn,B0,reduceIte,reduceEqDiff]
 refine zy hS63 hW (by simp only [B0,reduceIte,reduceEqDiff]) (fun h64 hS65=>?_)
 simp only [zv,q6b,qg,qf,qd,jj,qb,j9,B0,reduceIte,reduceEqDiff]
 obtain ⟨v69,hx70,hF71⟩:=qj hF49
 refine z7 4 (fun fr' h'=>Sep h' (geL h.length) ([Blk1 b9 [.nil,.nil,
   .nil] 31]++(c50++(c53++(c57++([])))))∧fr' 25 = .bool v69∧fr' 4 = .ptr b9 0∧fr' 6 = .ref [v30,v52,v56] 0) (fun Q66 hN67=>?_) ?_
 ·simp only [List.take_succ_cons,List.take_zero]
  simp only [qc (g:=21),B0,reduceIte,reduceEqDiff]
  refine qy (t:=(!v47.2)) (fun hg68=>?_) (fun hg68=>?_)
  ·rw [iteT hg68] at hx70
   simp only [hg68,qc (g:=21),zq,qs,qb,zj,qa,qn,B0,reduceIte,reduceEqDiff]
   have e72:=qk hx70
   exact hN67 _ _ ⟨(Sep.m3 (Sep.m2 (Sep.m2 (Sep.m2 hS65)))),by rw [←e72]; simp only [B0,reduceIte,reduceEqDiff],rfl,rfl⟩
  ·rw [iteF hg68] at hx70
   simp only [hg68,qc (g:=21),qp,qo,B0,reduceIte,reduceEqDiff]
   refine qh (v := .agg [v30,v52,v56]) rfl ?_
   obtain ⟨v73,hx74,hF75⟩:=qj hx70
   simp only [hg68,qc (g:=21),qp,qv,B0,reduceIte,reduceEqDiff]
   refine je rfl (qm (jm (qm (SlN.snap hv51 _ hS65 rfl Server.RO) (qm (SlF.snap hv54 (Sep.m1 hS65) rfl (fun _=>rfl) (fun _=>rfl)) (qm (SlF.snap hv58
     (Sep.m2 hS65) rfl (fun _=>rfl) (fun _=>rfl)) qz)))) qz) (ut (fun b hb=>decide_eq_true hb) v47.1 v73 hx74) ?_
   simp only [hg68,qc (g:=21),qp,jj,qb,j9,qs,zk,qa,qn,B0,reduceIte,reduceEqDiff]
   have e76:=qk hF75
   exact hN67 _ _ ⟨(Sep.m3 (Sep.m2 (Sep.m2 (Sep.m2 hS65)))),by rw [←e76]; simp only [B0,reduceIte,reduceEqDiff],rfl,rfl⟩
 rintro fr77 h81 ⟨hS82,f78,f79,f80⟩
 simp only [List.drop_succ_cons,List.drop_zero]
 simp only [qa,q50,f78,ze,B0,reduceIte,reduceEqDiff]
 refine zf (t:=v69) (fun hc83=>?_) (fun hc83=>?_)
 ·rw [iteT hc83] at hF71
  simp only [qg,qf,run_build,evp,B0,reduceIte,reduceEqDiff]
  refine qh (v := .agg [.nil,.nil,.nil]) rfl ?_
  simp only [f79,zl,B0,reduceIte,reduceEqDiff]
  refine q9 (us:=[.nil,.nil,.nil]) rfl (cs':=[.nil,.nil,.nil]) hS82 hW rfl rfl (nle rfl) rfl (fun h84 hS85=>?_)
  simp only [qd,qa,za,B0,reduceIte,reduceEqDiff]
  have he:=qk hF71
  subst he
  refine jt (qm (j6 (bb:=b9) (oo:=0) (v := .agg [.nil,.nil,
    .nil]) (f79) ((zz (Sep.bk _ _ _ hS85)).trans rfl)) (qm (yn (v := .bool false) (rfl)) qz)) ?_
  exact ⟨.nil,[],.nil,[],.nil,[],by first | trivial | rfl,SlN.nil,SlF.nil,SlF.nil,((Sep.dc ((Sep.dc ((Sep.dc ((Sep.dc (hS85)))))))) : Sep _ (geL h.length) ([]))⟩
 rw [iteF hc83] at hF71
 simp only [zi,q0y,qg,qf,f80,qo,B0,reduceIte,reduceEqDiff]
 refine qh (v := .agg [v30,v52,v56]) rfl ?_
 obtain ⟨v86,hx87,hF88⟩:=qj hF71
 simp only [qv,B0,reduceIte,reduceEqDiff]
 refine qb7 rfl hS82 (qm (jm (qm (SlN.snap hv51 _ (Sep.m1 hS82) rfl Server.RO) (qm (SlF.snap hv54 (Sep.m2 hS82) rfl (fun _=>rfl) (fun _=>rfl)) (qm
   (SlF.snap hv58 (Sep.m3 hS82) rfl (fun _=>rfl) (fun _=>rfl)) qz)))) qz) (qff (fun b hb=>decide_eq_true hb) v47.1 v86 hx87) ?_
 rintro _ h101 ⟨v89,c90,v93,c94,v97,c98,rfl,hv91,hv95,hv99,hS102⟩
 refine ⟨_,qjp (qq (SlN.free1 hv91) (qq (SlF.free1 hv95) (qq (SlF.free1 hv99) zo))),hS102,
   (jq (SlN.pf hv91 Server.RO) (jq (SlF.pf hv95 (fun _=>rfl)) (jq (SlF.pf hv99 (fun _=>rfl)) uf))),fun h103 hS104=>?_⟩
 have hS105:Sep h103 (geL h.length) (c90++(c94++(c98++([Blk1 b9 [.nil,.nil,.nil] 31]++(c50++(c53++(c57++([])))))))):=by simpa only [List.append_assoc,
   List.nil_append] using hS104
 simp only [f79,zl,B0,reduceIte,reduceEqDiff]
 refine q9 (us:=[v89,v93,v97]) rfl (cs':=[v89,v93,
   v97]) (Sep.m3 hS105) hW rfl (qq (SlN.one hv91) (qq (SlF.one hv95) (qq (SlF.one hv99) zo))) (nle rfl) rfl (fun h106 hS107=>?_)
 simp only [qd,qa,za,B0,reduceIte,reduceEqDiff]
 have he:=qk hF88
 subst he
 refine jt (qm (j6 (bb:=b9) (oo:=0) (v := .agg [v89,v93,
   v97]) (f79) ((zz (Sep.bk _ _ _ hS107)).trans rfl)) (qm (yn (v := .bool true) (rfl)) qz)) ?_
 exact ⟨v89,c90,v93,c94,v97,c98,by first | trivial | rfl,hv91,hv95,hv99,
   (Sep.m2 (Sep.m2 (Sep.m2 (Sep.dc (Sep.m3 (Sep.dc (Sep.m3 (Sep.dc (Sep.m3 (Sep.dc (hS107)))))))))))⟩
theorem qjg {W:Nat→Bool}{h:Heap} (hW:∀ b,
  (geL h.length) b→W b=true) (k:Nat) (code_0:List Int) (r:Election × Int) (hF:qaz k code_0=some r) : Ret E W 20 [lst cU8 code_0] h
  (fun v h'=>∃ rv0_0 rc0_0 rv0_1 rc0_1 rv0_2 rc0_2,v = .tup [.agg [rv0_0,rv0_1,rv0_2],
  .int .i64 r.2]∧SlN Server.R 6 46 rv0_0 r.1.Servers rc0_0∧SlF qe 7 93 rv0_1 r.1.Post rc0_1∧SlF ql 2 39 rv0_2 r.1.Led rc0_2∧Sep h' (geL h.length)
  (rc0_0++(rc0_1++(rc0_2++([]))))):=by
 refine Ret.of (fn:=x20) rfl (Run.of ?_)
 unfold qaz at hF
 have zf0:zh [lst cU8 code_0] 0=lst cU8 code_0:=rfl
 generalize zh [lst cU8 code_0]=fr0 at zf0 ⊢
 have hS:Sep h (geL h.length) []:=Sep.nil h
 simp only [x20,qg,qf,jg,B0,reduceIte,reduceEqDiff]
 refine zw hS (fun b1 h2 hS3=>?_)
 simp only [qd,qa,q09,qg,qf,zf0,run_build,evp,B0,reduceIte,reduceEqDiff]
 refine qh (v := .agg [lst cU8 code_0,.int .i64 0,.int .u64 0]) rfl ?_
 simp only [kc,B0,reduceIte,reduceEqDiff]
 refine jo (cs:=[lst cU8 code_0,.int .i64 0,.int .u64 0]) hS3 rfl rfl rfl (fun b5 h6 hS7=>?_)
 obtain ⟨v9,hx10,hF11⟩:=qj hF
 simp only [qd,qa,q3n,qg,qf,qv,B0,reduceIte,reduceEqDiff]
 refine kg rfl (qfn hW k b5 (L1Cur.mk code_0 0 0) v9 hx10 hS7) ?_
 rintro _ h24 ⟨v12,c13,v16,c17,v20,c21,rfl,hv14,hv18,hv22,hS25⟩
 obtain ⟨v26,hx27,hF28⟩:=qj hF11
 simp only [qd,qv,B0,reduceIte,reduceEqDiff]
 refine kg rfl (kw hW b5 v9.2 6 v26 hx27 (Sep.m3 hS25)) ?_
 rintro _ h29 ⟨rfl,hS30⟩
 simp only [qx,qb,qam,zl,B0,reduceIte,reduceEqDiff]
 refine q9 (us:=[v12,v16,v20]) rfl (cs':=[v12,v16,
   v20]) (Sep.m4 hS30) hW rfl (qq (SlN.one hv14) (qq (SlF.one hv18) (qq (SlF.one hv22) zo))) (nle rfl) rfl (fun h31 hS32=>?_)
 simp only [qd,qa,za,B0,reduceIte,reduceEqDiff]
 have he:=qk hF28
 subst he
 refine jt (qm (j6 (bb:=b1) (oo:=0) (v := .agg [v12,v16,
   v20]) (rfl) ((zz (Sep.bk _ _ _ hS32)).trans rfl)) (qm (yn (v := .int .i64 (IntKind.wrap .i64 ((10:Int)+v26.1))) (rfl)) qz)) ?_
 exact ⟨v12,c13,v16,c17,v20,c21,by first | trivial | rfl,hv14,hv18,hv22,(Sep.m2 (Sep.m2 (Sep.m2 (Sep.dc ((Sep.dc (hS32)))))))⟩
theorem qli {W:Nat→Bool}{h:Heap} (hW:∀ b,
  (geL h.length) b→W b=true) (e_0:Election) (term_1:Int) (r:Int × Bool) (hF:qdf e_0 term_1=some r) : Ret E W 21 [.agg [lst qi e_0.Servers,
  lst qe e_0.Post,lst ql e_0.Led],.int .i64 term_1] h (fun v h'=>cut h.length h' E.sz false 9 v=some (.tup [.int .i64 r.1,.bool r.2])):=by
 refine Ret.of (fn:=x21) rfl (Run.of ?_)
 unfold qdf at hF
 have zf0:zh [.agg [lst qi e_0.Servers,lst qe e_0.Post,lst ql e_0.Led],.int .i64 term_1] 0 = .agg [lst qi e_0.Servers,
   lst qe e_0.Post,lst ql e_0.Led]:=rfl
 have zf1:zh [.agg [lst qi e_0.Servers,lst qe e_0.Post,lst ql e_0.Led],.int .i64 term_1] 1 = .int .i64 term_1:=rfl
 generalize zh [.agg [lst qi e_0.Servers,lst qe e_0.Post,lst ql e_0.Led],.int .i64 term_1]=fr0 at zf0 zf1 ⊢
 have hS:Sep h (geL h.length) []:=Sep.nil h
 simp only [x21,qg,qf,kc,zf0,B0,reduceIte,reduceEqDiff]
 refine jo (cs:=[lst qi e_0.Servers,lst qe e_0.Post,lst ql e_0.Led]) hS rfl rfl rfl (fun b1 h2 hS3=>?_)
 simp only [qd,qa,B0,reduceIte,reduceEqDiff]
 refine zy hS3 hW (by simp only [B0,reduceIte,reduceEqDiff]) (fun h5 hS6=>?_)
 simp only [zv,q2e,qg,qf,qo,B0,reduceIte,reduceEqDiff]
 refine qh (v := .agg [lst qi e_0.Servers,lst qe e_0.Post,lst ql e_0.Led]) rfl ?_
 obtain ⟨v7,hx8,hF9⟩:=qj hF
 simp only [qv,B0,reduceIte,reduceEqDiff]
 refine je rfl (qm (jm (qm zm (qm zm (qm zm qz)))) qz) (ut (fun b hb=>decide_eq_true hb) e_0 v7 hx8) ?_
 simp only [jj,qb,j9,qa,q31,ze,B0,reduceIte,reduceEqDiff]
 refine zf (t:=(!v7)) (fun hc10=>?_) (fun hc10=>?_)
 ·rw [iteT hc10] at hF9
  simp only [qg,qf,qd,qa,za,B0,reduceIte,reduceEqDiff]
  have he:=qk hF9
  subst he
  simp only [wj,B0,reduceIte,reduceEqDiff]
  exact uz (qm rfl (qm rfl qz))
 rw [iteF hc10] at hF9
 simp only [zi,q5m,qg,qf,qt,qb,Nat.reduceAdd,Nat.zero_add,Nat.add_zero,qu,qo,B0,reduceIte,reduceEqDiff]
 refine qh (v:=lst ql e_0.Led) rfl ?_
 simp only [zr,qb,zx,qd,qa,B0,reduceIte,reduceEqDiff]
 obtain ⟨oc13,hX15,hk16⟩:=kn hF9
 simp only [q32]
 refine wb (σ:=Unit) e_0.Led (fun i11 x12 _=>yg term_1 i11 x12 ) (fun s fr' h'=>fr' 1 = .int .i64 term_1∧fr' 12=lst ql e_0.Led∧Sep h'
   (geL h.length) ([])) hX15 ⟨zf1,rfl,hS6⟩ (by simp only [B0,reduceIte,reduceEqDiff]) (by simp only [B0,reduceIte,
   reduceEqDiff]) (fun _ _ _ h=>h) rfl rfl (fun _ _ _ _ h=>h) (fun _ _ _ _ h=>h) (fun _ _ _ _ h=>h) (by decide) ?_ ?_
 ·rintro i11 x12 _ fr25 h26 hx30 ⟨f28,f29,hS27⟩ f31 f32 oc14 hF17 hr18 Q19 hN20 hB24 hK21 hR22 hE23
  unfold yg at hF17
  simp only [q1i,qg,qf,f29,f31,jr,B0,reduceIte,reduceEqDiff]
  refine qh (v := .ref (ql x12) 0) (wc hx30 rfl) ?_
  simp only [qo,B0,reduceIte,reduceEqDiff]
  refine qh (v := .agg [.int .i64 x12.Term,.int .i64 x12.Leader]) rfl ?_
  simp only [jg,B0,reduceIte,reduceEqDiff]
  refine zw hS27 (fun b33 h34 hS35=>?_)
  simp only [zl,B0,reduceIte,reduceEqDiff]
  refine q9 (us:=[.int .i64 x12.Term,.int .i64 x12.Leader]) rfl (cs':=[.int .i64 x12.Term,.int .i64 x12.Leader]) hS35 hW rfl rfl (nle rfl) rfl (fun h37 hS38=>?_)
  simp only [qa,B0,reduceIte,reduceEqDiff]
  refine zy hS38 hW (by simp only [B0,reduceIte,reduceEqDiff]) (fun h39 hS40=>?_)
  simp only [zv,q5z,qg,qf,qt,qb,Nat.reduceAdd,Nat.zero_add,Nat.add_zero,qu,qo,B0,reduceIte,reduceEqDiff]
  refine qh (v := .int .i64 x12.Term) rfl ?_
  simp only [f28,qd,qx,qb,yh,qa,q2h,ze,B0,reduceIte,reduceEqDiff]
  refine zf (t:=(decide (x12.Term=term_1))) (fun hc41=>?_) (fun hc41=>?_)
  ·rw [iteT hc41] at hF17
   simp only [q1m,qg,qf,qt,qb,Nat.reduceAdd,Nat.zero_add,Nat.add_zero,qu,qo,B0,reduceIte,reduceEqDiff]
   refine qh (v := .int .i64 x12.Leader) rfl ?_
   simp only [qd,qa,za,B0,reduceIte,reduceEqDiff]
   have e42:=qk hF17
   subst e42
   have ho43:=hr18 _ rfl
   have hk44:=hk16
   rw [ho43] at hk44
   dsimp only [jnO] at hk44
   apply hR22
   have he:=qk hk44
   subst he
   simp only [wj,B0,reduceIte,reduceEqDiff]
   exact uz (qm rfl (qm rfl qz))
  rw [iteF hc41] at hF17
  simp only [zi,qn,B0,reduceIte,reduceEqDiff]
  have e45:=qk hF17
  exact hN20 _ _ _ e45.symm ⟨f28,f29,hS40⟩ (f31) (f32)
 rintro _ fr47 h48 rfl ⟨f50,f51,hS49⟩
 dsimp only [jnO] at hk16
 unfold qey at hk16
 simp only [qg,qf,qd,qa,za,B0,reduceIte,reduceEqDiff]
 have he:=qk hk16
 subst he
 simp only [wj,B0,reduceIte,reduceEqDiff]
 exact uz (qm rfl (qm rfl qz))
theorem qjx {W:Nat→Bool}{h:Heap} (hW:∀ b,
  (geL h.length) b→W b=true) (k:Nat) (code_0:List Int) (r:Election × Int) (hF:qbl k code_0=some r) : Ret E W 22 [lst cU8 code_0] h
  (fun v h'=>∃ rv0_0 rc0_0 rv0_1 rc0_1 rv0_2 rc0_2,v = .tup [.agg [rv0_0,rv0_1,rv0_2],
  .int .i64 r.2]∧SlN Server.R 6 46 rv0_0 r.1.Servers rc0_0∧SlF qe 7 93 rv0_1 r.1.Post rc0_1∧SlF ql 2 39 rv0_2 r.1.Led rc0_2∧Sep h' (geL h.length)
  (rc0_0++(rc0_1++(rc0_2++([]))))):=by
 refine Ret.of (fn:=x22) rfl (Run.of ?_)
 unfold qbl at hF
 have zf0:zh [lst cU8 code_0] 0=lst cU8 code_0:=rfl
 generalize zh [lst cU8 code_0]=fr0 at zf0 ⊢
 have hS:Sep h (geL h.length) []:=Sep.nil h
 simp only [x22,qg,qf,jg,B0,reduceIte,reduceEqDiff]
 refine zw hS (fun b1 h2 hS3=>?_)
 simp only [qd,qa,q48,qg,qf,zf0,run_build,evp,B0,reduceIte,reduceEqDiff]
 refine qh (v := .agg [lst cU8 code_0,.int .i64 0,.int .u64 0]) rfl ?_
 simp only [kc,B0,reduceIte,reduceEqDiff]
 refine jo (cs:=[lst cU8 code_0,.int .i64 0,.int .u64 0]) hS3 rfl rfl rfl (fun b5 h6 hS7=>?_)
 obtain ⟨v9,hx10,hF11⟩:=qj hF
 simp only [qd,qa,q27,qg,qf,qv,B0,reduceIte,reduceEqDiff]
 refine kg rfl (qfn hW k b5 (L1Cur.mk code_0 0 0) v9 hx10 hS7) ?_
 rintro _ h24 ⟨v12,c13,v16,c17,v20,c21,rfl,hv14,hv18,hv22,hS25⟩
 simp only [jg,B0,reduceIte,reduceEqDiff]
 refine zw hS25 (fun b26 h27 hS28=>?_)
 simp only [zl,B0,reduceIte,reduceEqDiff]
 refine q9 (us:=[v12,v16,v20]) rfl (cs':=[v12,v16,
   v20]) hS28 hW rfl (qq (SlN.one hv14) (qq (SlF.one hv18) (qq (SlF.one hv22) zo))) (nle rfl) rfl (fun h30 hS31=>?_)
 simp only [qa,B0,reduceIte,reduceEqDiff]
 refine zy hS31 hW (by simp only [B0,reduceIte,reduceEqDiff]) (fun h32 hS33=>?_)
 simp only [zv,q2s,qg,jv,ue,qcp,B0,reduceIte,reduceEqDiff]
 refine qw (v := .agg [v12,v16,v20]) rfl ?_
 simp only [jf,qr,jc,Nat.reduceAdd,Nat.zero_add,Nat.add_zero,qu,ja,B0,reduceIte,reduceEqDiff]
 refine qw (v:=v12) rfl ?_
 obtain ⟨v34,hx35,hF36⟩:=qj hF11
 simp only [qhl,qr,SlN.len hv14,uv,qam,ua,B0,reduceIte,reduceEqDiff]
 refine quu rfl (ms:=[b5]) rfl qm8 hW (Sep.m3 hS33) rfl (Nat.le_refl _) (fun b hb=>((Sep.dc (Sep.m3 hS33)).ran b hb).2) (fun hWq hSq=>kw hWq b5 v9.2
   (IntKind.wrap .i64 ((List.length v9.1.Servers:Int)+1)) v34 hx35 hSq) ?_
 rintro _ h37 ⟨rfl,hS38⟩ hback
 replace hS38:=hback _ hS38
 simp only [qbm,B0,reduceIte,reduceEqDiff]
 refine wa (us:=[v12,v16,v20]) rfl (cs':=[v12,v16,
   v20]) (Sep.m4 hS38) hW rfl (qq (SlN.one hv14) (qq (SlF.one hv18) (qq (SlF.one hv22) zo))) (nle rfl) rfl (fun h39 hS40=>?_)
 simp only [jf,qr,zn,za,B0,reduceIte,reduceEqDiff]
 have he:=qk hF36
 subst he
 refine jt (qm (j6 (bb:=b1) (oo:=0) (v := .agg [v12,v16,
   v20]) (rfl) ((zz (Sep.bk _ _ _ hS40)).trans rfl)) (qm (yn (v := .int .i64 v34.1) (rfl)) qz)) ?_
 exact ⟨v12,c13,v16,c17,v20,c21,by first | trivial | rfl,hv14,hv18,hv22,(Sep.m2 (Sep.m2 (Sep.m2 (Sep.dc ((Sep.dc (hS40)))))))⟩
end Go.Proofs.Ytpddolihbnfahaa.X
namespace Go.Proofs.Ytpddolihbnfahaa.X
open Go
open Nat (reduceEqDiff)
theorem qma {W:Nat→Bool}{h:Heap} (hW:∀ b,
  (geL h.length) b→W b=true) (e_0:Election) (server_1:Int) (r:Bool × Bool) (hF:qbk e_0 server_1=some r) : Ret E W 23 [.agg [lst qi e_0.Servers,
  lst qe e_0.Post,lst ql e_0.Led],.int .i64 server_1] h (fun v h'=>cut h.length h' E.sz false 9 v=some (.tup [.bool r.1,.bool r.2])):=by
 refine Ret.of (fn:=x23) rfl (Run.of ?_)
 unfold qbk at hF
 have zf0:zh [.agg [lst qi e_0.Servers,lst qe e_0.Post,lst ql e_0.Led],.int .i64 server_1] 0 = .agg [lst qi e_0.Servers,
   lst qe e_0.Post,lst ql e_0.Led]:=rfl
 have zf1:zh [.agg [lst qi e_0.Servers,lst qe e_0.Post,lst ql e_0.Led],.int .i64 server_1] 1 = .int .i64 server_1:=rfl
 generalize zh [.agg [lst qi e_0.Servers,lst qe e_0.Post,lst ql e_0.Led],.int .i64 server_1]=fr0 at zf0 zf1 ⊢
 have hS:Sep h (geL h.length) []:=Sep.nil h
 simp only [x23,qg,qf,kc,zf0,B0,reduceIte,reduceEqDiff]
 refine jo (cs:=[lst qi e_0.Servers,lst qe e_0.Post,lst ql e_0.Led]) hS rfl rfl rfl (fun b1 h2 hS3=>?_)
 simp only [qd,qa,B0,reduceIte,reduceEqDiff]
 refine zy hS3 hW (by simp only [B0,reduceIte,reduceEqDiff]) (fun h5 hS6=>?_)
 simp only [zv,qv6,qg,qf,qo,B0,reduceIte,reduceEqDiff]
 refine qh (v := .agg [lst qi e_0.Servers,lst qe e_0.Post,lst ql e_0.Led]) rfl ?_
 obtain ⟨v7,hx8,hF9⟩:=qj hF
 simp only [qv,B0,reduceIte,reduceEqDiff]
 refine je rfl (qm (jm (qm zm (qm zm (qm zm qz)))) qz) (ut (fun b hb=>decide_eq_true hb) e_0 v7 hx8) ?_
 simp only [jj,qb,j9,qd,B0,reduceIte,reduceEqDiff]
 refine z7 5 (fun fr' h'=>Sep h' (geL h.length) ([])∧fr' 17 = .bool ((!v7) ||
   (!(jp e_0 server_1)))∧fr' 1 = .int .i64 server_1∧fr' 2 = .ref [lst qi e_0.Servers,lst qe e_0.Post,
   lst ql e_0.Led] 0) (fun Q10 hN11=>?_) ?_
 ·simp only [List.take_succ_cons,List.take_zero]
  simp only [qc (g:=12),B0,reduceIte,reduceEqDiff]
  refine qy (t:=(!v7)) (fun hg12=>?_) (fun hg12=>?_)
  ·simp only [hg12,qc (g:=12),zq,qs,qb,zj,qa,qn,B0,reduceIte,reduceEqDiff]
   exact hN11 _ _ ⟨hS6,by rw [orT hg12]; simp only [B0,reduceIte,reduceEqDiff],zf1,rfl⟩
  ·simp only [hg12,qc (g:=12),qp,qo,B0,reduceIte,reduceEqDiff]
   refine qh (v := .agg [lst qi e_0.Servers,lst qe e_0.Post,lst ql e_0.Led]) rfl ?_
   simp only [hg12,qc (g:=12),qp,zf1,qd,qv,B0,reduceIte,reduceEqDiff]
   refine je rfl (qm (jm (qm zm (qm zm (qm zm qz)))) (qm zb qz)) (qbc
     (fun b hb=>decide_eq_true hb) e_0 server_1 _ rfl) ?_
   simp only [hg12,qc (g:=12),qp,jj,qb,j9,qs,zk,qa,qn,B0,reduceIte,reduceEqDiff]
   exact hN11 _ _ ⟨hS6,by rw [orF hg12]; simp only [B0,reduceIte,reduceEqDiff],zf1,rfl⟩
 rintro fr13 h17 ⟨hS18,f14,f15,f16⟩
 simp only [List.drop_succ_cons,List.drop_zero]
 simp only [qa,q1r,f14,ze,B0,reduceIte,reduceEqDiff]
 refine zf (t:=((!v7)||(!(jp e_0 server_1)))) (fun hc19=>?_) (fun hc19=>?_)
 ·rw [iteT hc19] at hF9
  simp only [qg,qf,qd,qa,za,B0,reduceIte,reduceEqDiff]
  have he:=qk hF9
  subst he
  simp only [wj,B0,reduceIte,reduceEqDiff]
  exact uz (qm rfl (qm rfl qz))
 rw [iteF hc19] at hF9
 simp only [zi,q5h,qg,qf,qd,qa,q57,f16,qt,qb,Nat.reduceAdd,Nat.zero_add,Nat.add_zero,qu,qo,B0,reduceIte,
   reduceEqDiff]
 refine qh (v:=lst qi e_0.Servers) rfl ?_
 simp only [zr,qb,zx,qd,qa,B0,reduceIte,reduceEqDiff]
 obtain ⟨oc24,hX26,hk27⟩:=kn hF9
 simp only [q4n]
 refine wb (σ:=Int) e_0.Servers (fun i22 x23 s69=>qb3 e_0 server_1 i22 x23 s69)
   (fun s fr' h'=>fr' 1 = .int .i64 server_1∧fr' 2 = .ref [lst qi e_0.Servers,lst qe e_0.Post,
   lst ql e_0.Led] 0∧fr' 6 = .int .i64 s∧fr' 19=lst qi e_0.Servers∧Sep h' (geL h.length) ([])) hX26 ⟨f15,f16,rfl,rfl,hS18⟩ (by simp only [B0,
   reduceIte,reduceEqDiff]) (by simp only [B0,reduceIte,
   reduceEqDiff]) (fun _ _ _ h=>h) rfl rfl (fun _ _ _ _ h=>h) (fun _ _ _ _ h=>h) (fun _ _ _ _ h=>h) (by decide) ?_ ?_
 ·rintro i22 x23 s21 fr36 h37 hx43 ⟨f39,f40,f41,f42,hS38⟩ f44 f45 oc25 hF28 hr29 Q30 hN31 hB35 hK32 hR33 hE34
  unfold qb3 at hF28
  simp only [q5w,qg,qf,f42,f44,jr,B0,reduceIte,reduceEqDiff]
  refine qh (v := .ref (qi x23) 0) (wc hx43 rfl) ?_
  simp only [qo,B0,reduceIte,reduceEqDiff]
  refine qh (v := .agg [.int .i64 x23.Term,.int .i64 x23.Voted,.bool x23.Stands,.bool x23.Leads,lst cI x23.Got,lst cI x23.Log]) rfl ?_
  simp only [jg,B0,reduceIte,reduceEqDiff]
  refine zw hS38 (fun b46 h47 hS48=>?_)
  simp only [zl,B0,reduceIte,reduceEqDiff]
  refine q9 (us:=[.int .i64 x23.Term,.int .i64 x23.Voted,.bool x23.Stands,.bool x23.Leads,lst cI x23.Got,lst cI x23.Log]) rfl (cs':=[.int .i64 x23.Term,
    .int .i64 x23.Voted,.bool x23.Stands,.bool x23.Leads,lst cI x23.Got,lst cI x23.Log]) hS48 hW rfl rfl (nle rfl) rfl (fun h50 hS51=>?_)
  simp only [qa,B0,reduceIte,reduceEqDiff]
  refine zy hS51 hW (by simp only [B0,reduceIte,reduceEqDiff]) (fun h52 hS53=>?_)
  simp only [zv,q6r,qg,jv,f40,jc,qr,Nat.reduceAdd,Nat.zero_add,Nat.add_zero,qu,ja,B0,reduceIte,reduceEqDiff]
  refine qw (v:=lst qi e_0.Servers) rfl ?_
  obtain ⟨x54,hx55,hF56⟩:=qj hF28
  simp only [f39,jf,qr,qee,B0,reduceIte,reduceEqDiff]
  refine qw (v := .ref (qi x54) 0) (yl hx55 rfl) ?_
  simp only [jc,qr,Nat.reduceAdd,Nat.zero_add,Nat.add_zero,qu,ja,B0,reduceIte,reduceEqDiff]
  refine qw (v:=lst cI x54.Log) rfl ?_
  obtain ⟨v57,hx58,hF59⟩:=qj hF56
  simp only [ua,B0,reduceIte,reduceEqDiff]
  refine qjm rfl (qm zm qz) (qaq (fun b hb=>decide_eq_true hb) x54.Log v57 hx58) ?_
  simp only [f40,qbn,qr,Nat.reduceAdd,Nat.zero_add,Nat.add_zero,qu,ue,qcp,B0,reduceIte,reduceEqDiff]
  refine qw (v:=lst qi e_0.Servers) rfl ?_
  obtain ⟨x60,hx61,hF62⟩:=qj hF59
  simp only [f39,qfb,qr,q2j,B0,reduceIte,reduceEqDiff]
  refine qw (v := .ref (qi x60) 0) (yl hx61 rfl) ?_
  simp only [qbn,qr,Nat.reduceAdd,Nat.zero_add,Nat.add_zero,qu,ue,qcp,B0,reduceIte,reduceEqDiff]
  refine qw (v:=lst cI x60.Log) rfl ?_
  simp only [qk8,qr,zx,qbn,Nat.reduceAdd,Nat.zero_add,Nat.add_zero,qu,ue,qcp,B0,reduceIte,reduceEqDiff]
  refine qw (v:=lst cI x23.Log) rfl ?_
  obtain ⟨v63,hx64,hF65⟩:=qj hF62
  simp only [yf,B0,reduceIte,reduceEqDiff]
  refine qdc rfl (qm zb (qm zb (qm zm qz))) (qh6 (fun b hb=>decide_eq_true hb) v57 (List.length x60.Log:Int) x23.Log v63 hx64) ?_
  simp only [zn,q7l,ze,B0,reduceIte,reduceEqDiff]
  refine zf (t:=v63) (fun hc66=>?_) (fun hc66=>?_)
  ·rw [iteT hc66] at hF65
   simp only [qf,f41,qd,qx,qb,qam,qa,qn,B0,reduceIte,reduceEqDiff]
   have e67:=qk hF65
   exact hN31 _ _ _ e67.symm ⟨f39,f40,rfl,f42,hS53⟩ (f44) (f45)
  rw [iteF hc66] at hF65
  simp only [zi,qn,B0,reduceIte,reduceEqDiff]
  have e68:=qk hF65
  exact hN31 _ _ _ e68.symm ⟨f39,f40,f41,f42,hS53⟩ (f44) (f45)
 rintro s70 fr71 h72 rfl ⟨f74,f75,f76,f77,hS73⟩
 dsimp only [jnO] at hk27
 unfold qfj at hk27
 simp only [q04,qg,qf,f76,qd,qx,qb,qmg,f75,qt,Nat.reduceAdd,Nat.zero_add,Nat.add_zero,qu,qo,B0,reduceIte,reduceEqDiff]
 refine qh (v:=lst qi e_0.Servers) rfl ?_
 simp only [zr,qb,zx,qx,xb,qd,qa,za,B0,reduceIte,reduceEqDiff]
 have he:=qk hk27
 subst he
 simp only [wj,B0,reduceIte,reduceEqDiff]
 exact uz (qm rfl (qm rfl qz))
theorem qmi {W:Nat→Bool}{h:Heap}{lo:Nat→Prop}{S0:List Obj} (hW:∀ b,
  lo b→W b=true) (k:Nat) (pb0:Nat) (c_0:L1Cur) (r:(List Int) × (List Int) × L1Cur) (hF:qd6 k c_0=some r) (hS:Sep h lo ([Blk1 pb0 [lst cU8 c_0.code,
  .int .i64 c_0.at_,.int .u64 c_0.seed] 87]++(S0))) : Ret E W 104 [.ptr pb0 0] h (fun v h'=>∃ rv0 rc0 rv1 rc1,v = .tup [rv0,
  rv1]∧SlF cI 1 3 rv0 r.1 rc0∧SlF cI 1 3 rv1 r.2.1 rc1∧Sep h' lo (rc0++(rc1++([Blk1 pb0 [lst cU8 r.2.2.code,.int .i64 r.2.2.at_,
  .int .u64 r.2.2.seed] 87]++(S0))))):=by
 refine Ret.of (fn:=qq8) rfl (Run.of ?_)
 unfold qd6 at hF
 have zf0:zh [.ptr pb0 0] 0 = .ptr pb0 0:=rfl
 generalize zh [.ptr pb0 0]=fr0 at zf0 ⊢
 obtain ⟨v1,hx2,hF3⟩:=qj hF
 simp only [qq8,qg,qf,qd,qa,qp2,zf0,qv,B0,reduceIte,reduceEqDiff]
 refine kg rfl (qf2 hW k pb0 c_0 v1 hx2 hS) ?_
 rintro v4 h8 ⟨_,c5,rfl,hv6,hS9⟩
 obtain ⟨v10,hx11,hF12⟩:=qj hF3
 simp only [qd,qa,qpz,qg,qf,qv,B0,reduceIte,reduceEqDiff]
 refine je rfl (qm (SlF.snap hv6 hS9 rfl (fun _=>rfl) (fun _=>rfl)) qz) (xn (fun b hb=>decide_eq_true hb) v1.1 v10 hx11) ?_
 simp only [jj,qb,j9,qd,B0,reduceIte,reduceEqDiff]
 obtain ⟨sv18,hX16,hk17⟩:=qj hF12
 refine z7 3 (fun fr' h'=>fr' 0 = .ptr pb0 0∧fr' 4=v4∧fr' 16 = .bool sv18.1∧Sep h' lo ([Blk1 pb0 [lst cU8 sv18.2.code,.int .i64 sv18.2.at_,
   .int .u64 sv18.2.seed] 87]++(c5++(S0)))) (fun Q19 hN20=>?_) ?_
 ·simp only [List.take_succ_cons,List.take_zero]
  simp only [qc (g:=13),B0,reduceIte,reduceEqDiff]
  refine qy (t:=(!v10)) (fun hg23=>?_) (fun hg23=>?_)
  ·rw [iteT hg23] at hX16
   simp only [hg23,qc (g:=13),zq,qs,qb,zj,qa,qn,B0,reduceIte,reduceEqDiff]
   have e24:=qk hX16
   subst e24
   exact hN20 _ _ ⟨zf0,rfl,rfl,(Sep.m1 hS9)⟩
  ·rw [iteF hg23] at hX16
   obtain ⟨v25,hx26,hF27⟩:=qj hX16
   simp only [hg23,qc (g:=13),qp,zf0,qd,qv,B0,reduceIte,reduceEqDiff]
   refine kg rfl (qeg hW pb0 v1.2 6 v25 hx26 (Sep.m1 hS9)) ?_
   rintro _ h28 ⟨rfl,hS29⟩
   simp only [hg23,qs,qb,zk,qa,qn,B0,reduceIte,reduceEqDiff]
   have e30:=qk hF27
   subst e30
   exact hN20 _ _ ⟨zf0,rfl,rfl,(Sep.m1 (Sep.m1 hS29))⟩
 rintro fr31 h32 ⟨f34,f35,f36,hS33⟩
 obtain ⟨s13,s14⟩:=sv18
 dsimp only at *
 unfold w8 at hk17
 simp only [List.drop_succ_cons,List.drop_zero]
 simp only [qa,qu6,f36,ze,B0,reduceIte,reduceEqDiff]
 refine zf (t:=s13) (fun hc37=>?_) (fun hc37=>?_)
 ·rw [iteT hc37] at hk17
  obtain ⟨v38,hx39,hF40⟩:=qj hk17
  simp only [qxv,qg,qf,f35,qd,f34,qv,B0,reduceIte,reduceEqDiff]
  refine kg rfl (qf2 hW k pb0 s14 v38 hx39 hS33) ?_
  rintro v41 h45 ⟨_,c42,rfl,hv43,hS46⟩
  simp only [qd,qa,za,B0,reduceIte,reduceEqDiff]
  have he:=qk hF40
  subst he
  simp only [wj,B0,reduceIte,reduceEqDiff]
  exact ⟨v4,c5,v41,c42,by first | trivial | rfl,hv6,hv43,(Sep.m2 (Sep.m1 (Sep.m1 hS46)))⟩
 rw [iteF hc37] at hk17
 simp only [zi,qp1,qg,qf,j8,evp,B0,reduceIte,reduceEqDiff]
 refine jy (n:=1) (f:=cI) ([] : List Int) hS33 rfl rfl (fun v47 c48 h49 hv50 hS51=>?_)
 obtain ⟨v53,hx54,hF55⟩:=qj hk17
 simp only [f35,qd,f34,zr,qb,SlF.plen hv6,qx,qam,qv,B0,reduceIte,reduceEqDiff]
 refine kg rfl (kw hW pb0 s14 (IntKind.wrap .i64 ((List.length v1.1:Int)+1)) v53 hx54 (Sep.m1 hS51)) ?_
 rintro _ h56 ⟨rfl,hS57⟩
 obtain ⟨l58,hx59,hF60⟩:=qj hF55
 simp only [qg7,Option.map_some,Option.map_none,B0,reduceIte,reduceEqDiff]
 obtain ⟨w61,i62,he63,hw64⟩:=SlF.win (f:=cI) (ty:=3) none (some v53.1) hv6 hx59 (Sep.m2 hS57)
 refine qh he63 ?_
 simp only [wu,B0,reduceIte,reduceEqDiff]
 obtain ⟨l65,hx66,hF67⟩:=qj hF60
 refine yx (f:=cI) hv50 (Sep.m1 hS57) hW (fun _=>rfl) (fun _=>rfl) (SlW.first hw64 hv6 (Sep.m2 hS57) (fun _=>rfl)) hx66 (fun v68 c69 h70 hv71 hS72=>?_)
 simp only [qd,qa,qps,qg,qf,qpo,zr,qb,SlF.plen hv71,qx,xb,qwe,ze,B0,reduceIte,reduceEqDiff]
 obtain ⟨s74,hX76,hk77⟩:=qj hF67
 refine uq (t:=(decide ((0:Int)<(List.length l65:Int)))) (fun fr' h'=>fr' 0 = .ptr pb0 0∧fr' 4=v4∧fr' 5=v68∧fr' 6 = .int .i64 s74∧Sep h' lo
   ([Blk1 pb0 [lst cU8 v53.2.code,.int .i64 v53.2.at_,.int .u64 v53.2.seed] 87]++(c5++(c69++(S0))))) (fun Q78 hN79 hR80 hE81=>⟨fun hc82=>?_,fun hc82=>?_⟩) ?_
 ·rw [iteT hc82] at hX76
  obtain ⟨x83,hx84,hF85⟩:=qj hX76
  simp only [qva,qf,qd,zr,qb,SlF.plen hv71,qx,qbd,jr,B0,reduceIte,reduceEqDiff]
  obtain ⟨b86,hb87⟩:=SlF.isrow hv71 (wg hx84)
  refine qh (SlF.ia hv71 hb87 hx84) ?_
  simp only [qo,B0,reduceIte,reduceEqDiff]
  refine qh (v := .int .i64 x83) ((SlF.ld (o:=0) hv71 hS72 hb87 hx84 (fun _=>rfl) (nle rfl)).trans rfl) ?_
  simp only [qd,qa,qn,B0,reduceIte,reduceEqDiff]
  have e88:=qk hF85
  subst e88
  exact hN79 _ _ ⟨f34,f35,rfl,rfl,(Sep.m2 (Sep.m2 hS72))⟩
 ·rw [iteF hc82] at hX76
  simp only [zi,qn,B0,reduceIte,reduceEqDiff]
  have e89:=qk hX76
  subst e89
  exact hN79 _ _ ⟨f34,f35,rfl,rfl,(Sep.m2 (Sep.m2 hS72))⟩
 rintro fr90 h91 ⟨f93,f94,f95,f96,hS92⟩
 unfold qb8 at hk77
 obtain ⟨v97,hx98,hF99⟩:=qj hk77
 simp only [qpr,qg,qf,f93,qd,qv,B0,reduceIte,reduceEqDiff]
 refine kg rfl (kw hW pb0 v53.2 5 v97 hx98 hS92) ?_
 rintro _ h100 ⟨rfl,hS101⟩
 simp only [qd,qa,B0,reduceIte,reduceEqDiff]
 obtain ⟨oc120,hX122,hk123⟩:=kn hF99
 simp only [qpl]
 refine qg4 (σ:=(List Int) × Int × Int × L1Cur) (fun s176=>qad s176.1 s176.2.1 s176.2.2.1 s176.2.2.2) (fun s fr' h'=>∃ v112 c113,
   fr' 0 = .ptr pb0 0∧fr' 4=v4∧fr' 5=v112∧fr' 6 = .int .i64 s.2.1∧fr' 7 = .int .i64 s.2.2.1∧SlF cI 1 3 v112 s.1 c113∧Sep h' lo ([Blk1 pb0 [lst cU8 s.2.2.2.code,
   .int .i64 s.2.2.2.at_,.int .u64 s.2.2.2.seed] 87]++(c5++(c113++(S0))))) hX122 ⟨v68,c69,f93,f94,f95,f96,rfl,hv71,
   (Sep.m2 (Sep.m2 (Sep.m2 hS101)))⟩ (fun _ _ _ h=>h) ?_ ?_
 ·rintro ⟨s110,s115,s116,s117⟩ fr132 h133 ⟨v112,c113,f135,f136,f137,f138,f139,hv114,hS134⟩ oc121 hF124 hr125 Q126 hN127 hK128 hR129 hE130
  dsimp only at *
  unfold qad at hF124
  simp only [qw0,qg,qf,f139,qd,qx,qb,xb,B0,reduceIte,reduceEqDiff]
  refine z7 4 (fun fr' h'=>Sep h' lo ([Blk1 pb0 [lst cU8 s117.code,.int .i64 s117.at_,
    .int .u64 s117.seed] 87]++(c5++(c113++(S0))))∧fr' 46 = .bool ((decide ((0:Int)<s116))&&(decide
    ((List.length s110:Int)<30)))∧fr' 0 = .ptr pb0 0∧fr' 4=v4∧fr' 5=v112∧fr' 6 = .int .i64 s115∧fr' 7 = .int .i64 s116) (fun Q141 hN142=>?_) ?_
  ·simp only [List.take_succ_cons,List.take_zero]
   simp only [qc (g:=42),B0,reduceIte,reduceEqDiff]
   refine qy (t:=(decide ((0:Int)<s116))) (fun hg143=>?_) (fun hg143=>?_)
   ·simp only [hg143,qc (g:=42),zg,f137,qd,zr,qb,SlF.plen hv114,qx,qdj,qs,zj,qa,qn,B0,reduceIte,
     reduceEqDiff]
    exact hN142 _ _ ⟨(Sep.m2 (Sep.m2 (Sep.m2 hS134))),by rw [xl hg143]; simp only [B0,reduceIte,reduceEqDiff],f135,f136,f137,f138,f139⟩
   ·simp only [hg143,qc (g:=42),jl,qs,qb,zk,qa,qn,B0,reduceIte,reduceEqDiff]
    exact hN142 _ _ ⟨(Sep.m2 (Sep.m2 (Sep.m2 hS134))),by rw [xm hg143]; simp only [B0,reduceIte,reduceEqDiff],f135,f136,f137,f138,f139⟩
  rintro fr144 h151 ⟨hS152,f145,f146,f147,f148,f149,f150⟩
  simp only [List.drop_succ_cons,List.drop_zero]
  simp only [qa,f145,ze,B0,reduceIte,reduceEqDiff]
  refine zf (t:=((decide ((0:Int)<s116))&&(decide ((List.length s110:Int)<30)))) (fun hc153=>?_) (fun hc153=>?_)
  ·rw [iteT hc153] at hF124
   obtain ⟨v154,hx155,hF156⟩:=qj hF124
   simp only [zi,qtp,qg,qaa,qt6,qf,f149,qd,f146,qv,B0,reduceIte,reduceEqDiff]
   refine kg rfl (kw hW pb0 s117 3 v154 hx155 hS152) ?_
   rintro _ h157 ⟨rfl,hS158⟩
   simp only [qx,qb,qam,qd,qa,qry,qf,f148,j8,evp,B0,reduceIte,reduceEqDiff]
   refine jy (n:=1) (f:=cI) [(IntKind.wrap .i64 (s115+v154.1))] hS158 rfl rfl (fun v159 c160 h161 hv162 hS163=>?_)
   simp only [wu,B0,reduceIte,reduceEqDiff]
   obtain ⟨l165,hx166,hF167⟩:=qj hF156
   refine yx (f:=cI) hv114 (Sep.m3 hS163) hW (fun _=>rfl) (fun _=>rfl) (SlF.first hv162 hS163 (fun _=>rfl)) hx166 (fun v168 c169 h170 hv171 hS172=>?_)
   simp only [qd,qa,um,qf,f150,qx,qb,qbd,qn,B0,reduceIte,reduceEqDiff]
   have e174:=qk hF167
   exact hN127 _ _ _ e174.symm ⟨v168,c169,f146,f147,rfl,rfl,rfl,hv171,(Sep.m2 (Sep.m2 (Sep.dc (Sep.m1 hS172))))⟩
  rw [iteF hc153] at hF124
  simp only [qdz,qc9,qe4,B0,reduceIte,reduceEqDiff]
  have e175:=qk hF124
  exact hK128 _ _ _ e175.symm ⟨v112,c113,f146,f147,f148,f149,f150,hv114,(Sep.m2 (Sep.m2 (Sep.m2 hS152)))⟩
 rintro ⟨s177,s182,s183,s184⟩ fr185 h186 rfl ⟨v179,c180,f188,f189,f190,f191,f192,hv181,hS187⟩
 dsimp only [jnO] at hk123
 dsimp only at *
 unfold qhu at hk123
 simp only [qpj,qg,qf,f189,qd,f190,qa,za,B0,reduceIte,reduceEqDiff]
 have he:=qk hk123
 subst he
 simp only [wj,B0,reduceIte,reduceEqDiff]
 exact ⟨v4,c5,v179,c180,by first | trivial | rfl,hv6,hv181,(Sep.m2 (Sep.m2 hS187))⟩
theorem qj8 {W:Nat→Bool}{h:Heap} (hW:∀ b,
  (geL h.length) b→W b=true) (k:Nat) (code_0:List Int) (r:(List Int) × (List Int)) (hF:qdl k code_0=some r) : Ret E W 67 [lst cU8 code_0] h
  (fun v h'=>∃ rv0 rc0 rv1 rc1,v = .tup [rv0,rv1]∧SlF cI 1 3 rv0 r.1 rc0∧SlF cI 1 3 rv1 r.2 rc1∧Sep h' (geL h.length) (rc0++(rc1++([])))):=by
 refine Ret.of (fn:=x67) rfl (Run.of ?_)
 unfold qdl at hF
 have zf0:zh [lst cU8 code_0] 0=lst cU8 code_0:=rfl
 generalize zh [lst cU8 code_0]=fr0 at zf0 ⊢
 have hS:Sep h (geL h.length) []:=Sep.nil h
 simp only [x67,qg,qf,qd,qa,q08,zf0,run_build,evp,B0,reduceIte,reduceEqDiff]
 refine qh (v := .agg [lst cU8 code_0,.int .i64 0,.int .u64 0]) rfl ?_
 simp only [kc,B0,reduceIte,reduceEqDiff]
 refine jo (cs:=[lst cU8 code_0,.int .i64 0,.int .u64 0]) hS rfl rfl rfl (fun b1 h2 hS3=>?_)
 obtain ⟨v5,hx6,hF7⟩:=qj hF
 simp only [qd,qa,qzz,qg,qf,qv,B0,reduceIte,reduceEqDiff]
 refine kg rfl (qmi hW k b1 (L1Cur.mk code_0 0 0) v5 hx6 hS3) ?_
 rintro _ h16 ⟨v8,c9,v12,c13,rfl,hv10,hv14,hS17⟩
 simp only [yu,qb,yz,yy,qd,qa,za,B0,reduceIte,reduceEqDiff]
 have he:=qk hF7
 subst he
 simp only [wj,B0,reduceIte,reduceEqDiff]
 exact ⟨v8,c9,v12,c13,by first | trivial | rfl,hv10,hv14,(Sep.m1 (Sep.m1 (Sep.dc (Sep.m2 hS17))))⟩
theorem qji {W:Nat→Bool}{h:Heap} (hW:∀ b,
  (geL h.length) b→W b=true) (k:Nat) (code_0:List Int) (r:(List Int) × (List Int)) (hF:qa1 k code_0=some r) : Ret E W 24 [lst cU8 code_0] h
  (fun v h'=>∃ rv0 rc0 rv1 rc1,v = .tup [rv0,rv1]∧SlF cI 1 3 rv0 r.1 rc0∧SlF cI 1 3 rv1 r.2 rc1∧Sep h' (geL h.length) (rc0++(rc1++([])))):=by
 refine Ret.of (fn:=x24) rfl (Run.of ?_)
 unfold qa1 at hF
 have zf0:zh [lst cU8 code_0] 0=lst cU8 code_0:=rfl
 generalize zh [lst cU8 code_0]=fr0 at zf0 ⊢
 have hS:Sep h (geL h.length) []:=Sep.nil h
 obtain ⟨v1,hx2,hF3⟩:=qj hF
 simp only [x24,qg,qf,qd,qa,q1p,zf0,qv,B0,reduceIte,reduceEqDiff]
 refine qb7 rfl hS (qm zm qz) (qj8 (fun b hb=>decide_eq_true hb) k code_0 v1 hx2) ?_
 rintro _ h12 ⟨v4,c5,v8,c9,rfl,hv6,hv10,hS13⟩
 refine ⟨_,qcv (qq (qij (SlF.free1 hv6)) (qq (qij (SlF.free1 hv10)) zo)),hS13,
   (jq (SlF.pf hv6 (fun _=>rfl)) (jq (SlF.pf hv10 (fun _=>rfl)) uf)),fun h14 hS15=>?_⟩
 have hS16:Sep h14 (geL h.length) (c5++(c9++([]))):=by simpa only [List.append_assoc,List.nil_append] using hS15
 simp only [yu,qb,yz,yy,qd,qa,za,B0,reduceIte,reduceEqDiff]
 have he:=qk hF3
 subst he
 simp only [wj,B0,reduceIte,reduceEqDiff]
 exact ⟨v4,c5,v8,c9,by first | trivial | rfl,hv6,hv10,(Sep.m1 (Sep.m1 hS16))⟩
theorem qhs {W:Nat→Bool}{h:Heap} (hW:∀ b,
  (geL h.length) b→W b=true) (a_0:List Int) (b_1:List Int) (r:Bool × Bool) (hF:qao a_0 b_1=some r) : Ret E W 25 [lst cI a_0,
  lst cI b_1] h (fun v h'=>cut h.length h' E.sz false 9 v=some (.tup [.bool r.1,.bool r.2])):=by
 refine Ret.of (fn:=x25) rfl (Run.of ?_)
 unfold qao at hF
 have zf0:zh [lst cI a_0,lst cI b_1] 0=lst cI a_0:=rfl
 have zf1:zh [lst cI a_0,lst cI b_1] 1=lst cI b_1:=rfl
 generalize zh [lst cI a_0,lst cI b_1]=fr0 at zf0 zf1 ⊢
 have hS:Sep h (geL h.length) []:=Sep.nil h
 obtain ⟨v1,hx2,hF3⟩:=qj hF
 simp only [x25,qg,qf,qd,qa,q0t,zf0,qv,B0,reduceIte,reduceEqDiff]
 refine je rfl (qm zm qz) (qcn (fun b hb=>decide_eq_true hb) a_0 v1 hx2) ?_
 simp only [jj,qb,j9,qd,B0,reduceIte,reduceEqDiff]
 obtain ⟨v7,hx8,hF9⟩:=qj hF3
 refine z7 4 (fun fr' h'=>Sep h' (geL h.length) ([])∧fr' 13 = .bool v7∧fr' 0=lst cI a_0∧fr' 1=lst cI b_1) (fun Q4 hN5=>?_) ?_
 ·simp only [List.take_succ_cons,List.take_zero]
  simp only [qc (g:=9),B0,reduceIte,reduceEqDiff]
  refine qy (t:=(!v1)) (fun hg6=>?_) (fun hg6=>?_)
  ·rw [iteT hg6] at hx8
   simp only [hg6,qc (g:=9),zq,qs,qb,zj,qa,qn,B0,reduceIte,reduceEqDiff]
   have e10:=qk hx8
   exact hN5 _ _ ⟨hS,by rw [←e10]; simp only [B0,reduceIte,reduceEqDiff],zf0,zf1⟩
  ·rw [iteF hg6] at hx8
   obtain ⟨v11,hx12,hF13⟩:=qj hx8
   simp only [hg6,qc (g:=9),qp,zf1,qd,qv,B0,reduceIte,reduceEqDiff]
   refine je rfl (qm zm qz) (qcn (fun b hb=>decide_eq_true hb) b_1 v11 hx12) ?_
   simp only [hg6,qc (g:=9),qp,jj,qb,j9,qs,zk,qa,qn,B0,reduceIte,reduceEqDiff]
   have e14:=qk hF13
   exact hN5 _ _ ⟨hS,by rw [←e14]; simp only [B0,reduceIte,reduceEqDiff],zf0,zf1⟩
 rintro fr15 h19 ⟨hS20,f16,f17,f18⟩
 simp only [List.drop_succ_cons,List.drop_zero]
 simp only [qa,q1f,f16,ze,B0,reduceIte,reduceEqDiff]
 refine zf (t:=v7) (fun hc21=>?_) (fun hc21=>?_)
 ·rw [iteT hc21] at hF9
  simp only [qg,qf,qd,qa,za,B0,reduceIte,reduceEqDiff]
  have he:=qk hF9
  subst he
  simp only [wj,B0,reduceIte,reduceEqDiff]
  exact uz (qm rfl (qm rfl qz))
 rw [iteF hc21] at hF9
 obtain ⟨v22,hx23,hF24⟩:=qj hF9
 simp only [zi,q4b,qg,qf,f17,qd,qv,B0,reduceIte,reduceEqDiff]
 refine je rfl (qm zm qz) (qbr (fun b hb=>decide_eq_true hb) a_0 v22 hx23) ?_
 obtain ⟨v25,hx26,hF27⟩:=qj hF24
 simp only [f17,qd,zr,qb,zx,f18,qv,B0,reduceIte,reduceEqDiff]
 refine je rfl (qm zb (qm zb (qm zm qz))) (qfe (fun b hb=>decide_eq_true hb) v22 (List.length a_0:Int) b_1 v25 hx26) ?_
 simp only [qd,qa,za,B0,reduceIte,reduceEqDiff]
 have he:=qk hF27
 subst he
 simp only [wj,B0,reduceIte,reduceEqDiff]
 exact uz (qm rfl (qm rfl qz))
theorem qk6 {W:Nat→Bool}{h:Heap} (hW:∀ b,
  (geL h.length) b→W b=true) (a_0:List Int) (b_1:List Int) (r:Bool × Bool) (hF:qdg a_0 b_1=some r) : Ret E W 26 [lst cI a_0,
  lst cI b_1] h (fun v h'=>cut h.length h' E.sz false 9 v=some (.tup [.bool r.1,.bool r.2])):=by
 refine Ret.of (fn:=x26) rfl (Run.of ?_)
 unfold qdg at hF
 have zf0:zh [lst cI a_0,lst cI b_1] 0=lst cI a_0:=rfl
 have zf1:zh [lst cI a_0,lst cI b_1] 1=lst cI b_1:=rfl
 generalize zh [lst cI a_0,lst cI b_1]=fr0 at zf0 zf1 ⊢
 have hS:Sep h (geL h.length) []:=Sep.nil h
 obtain ⟨v1,hx2,hF3⟩:=qj hF
 simp only [x26,qg,qf,qd,qa,q3t,zf0,qv,B0,reduceIte,reduceEqDiff]
 refine je rfl (qm zm qz) (xn (fun b hb=>decide_eq_true hb) a_0 v1 hx2) ?_
 simp only [jj,qb,j9,qd,B0,reduceIte,reduceEqDiff]
 obtain ⟨v7,hx8,hF9⟩:=qj hF3
 refine z7 4 (fun fr' h'=>Sep h' (geL h.length) ([])∧fr' 13 = .bool v7∧fr' 0=lst cI a_0∧fr' 1=lst cI b_1) (fun Q4 hN5=>?_) ?_
 ·simp only [List.take_succ_cons,List.take_zero]
  simp only [qc (g:=9),B0,reduceIte,reduceEqDiff]
  refine qy (t:=(!v1)) (fun hg6=>?_) (fun hg6=>?_)
  ·rw [iteT hg6] at hx8
   simp only [hg6,qc (g:=9),zq,qs,qb,zj,qa,qn,B0,reduceIte,reduceEqDiff]
   have e10:=qk hx8
   exact hN5 _ _ ⟨hS,by rw [←e10]; simp only [B0,reduceIte,reduceEqDiff],zf0,zf1⟩
  ·rw [iteF hg6] at hx8
   obtain ⟨v11,hx12,hF13⟩:=qj hx8
   simp only [hg6,qc (g:=9),qp,zf1,qd,qv,B0,reduceIte,reduceEqDiff]
   refine je rfl (qm zm qz) (xn (fun b hb=>decide_eq_true hb) b_1 v11 hx12) ?_
   simp only [hg6,qc (g:=9),qp,jj,qb,j9,qs,zk,qa,qn,B0,reduceIte,reduceEqDiff]
   have e14:=qk hF13
   exact hN5 _ _ ⟨hS,by rw [←e14]; simp only [B0,reduceIte,reduceEqDiff],zf0,zf1⟩
 rintro fr15 h19 ⟨hS20,f16,f17,f18⟩
 simp only [List.drop_succ_cons,List.drop_zero]
 simp only [qa,qz9,f16,ze,B0,reduceIte,reduceEqDiff]
 refine zf (t:=v7) (fun hc21=>?_) (fun hc21=>?_)
 ·rw [iteT hc21] at hF9
  simp only [qg,qf,qd,qa,za,B0,reduceIte,reduceEqDiff]
  have he:=qk hF9
  subst he
  simp only [wj,B0,reduceIte,reduceEqDiff]
  exact uz (qm rfl (qm rfl qz))
 rw [iteF hc21] at hF9
 obtain ⟨v22,hx23,hF24⟩:=qj hF9
 simp only [zi,q2d,qg,qf,f17,qd,qv,B0,reduceIte,reduceEqDiff]
 refine je rfl (qm zm qz) (qaq (fun b hb=>decide_eq_true hb) a_0 v22 hx23) ?_
 obtain ⟨v25,hx26,hF27⟩:=qj hF24
 simp only [f17,qd,zr,qb,zx,f18,qv,B0,reduceIte,reduceEqDiff]
 refine je rfl (qm zb (qm zb (qm zm qz))) (qh6 (fun b hb=>decide_eq_true hb) v22 (List.length a_0:Int) b_1 v25 hx26) ?_
 simp only [qd,qa,za,B0,reduceIte,reduceEqDiff]
 have he:=qk hF27
 subst he
 simp only [wj,B0,reduceIte,reduceEqDiff]
 exact uz (qm rfl (qm rfl qz))
theorem qh7 {W:Nat→Bool}{h:Heap} (hW:∀ b,
  (geL h.length) b→W b=true) (k:Nat) (code_0:List Int) (r:List (List Int)) (hF:uj k code_0=some r) : Ret E W 27 [lst cU8 code_0] h
  (fun v h'=>∃ rv0 rc0,v=rv0∧SlN RL44 1 44 rv0 r rc0∧Sep h' (geL h.length) (rc0++([]))):=by
 refine Ret.of (fn:=x27) rfl (Run.of ?_)
 unfold uj at hF
 have zf0:zh [lst cU8 code_0] 0=lst cU8 code_0:=rfl
 generalize zh [lst cU8 code_0]=fr0 at zf0 ⊢
 have hS:Sep h (geL h.length) []:=Sep.nil h
 simp only [x27,qg,qf,qd,qa,q54,zf0,run_build,evp,B0,reduceIte,reduceEqDiff]
 refine qh (v := .agg [lst cU8 code_0,.int .i64 0,.int .u64 0]) rfl ?_
 simp only [kc,B0,reduceIte,reduceEqDiff]
 refine jo (cs:=[lst cU8 code_0,.int .i64 0,.int .u64 0]) hS rfl rfl rfl (fun b1 h2 hS3=>?_)
 obtain ⟨v5,hx6,hF7⟩:=qj hF
 simp only [qd,qa,qg,qf,qv,B0,reduceIte,reduceEqDiff]
 refine kg rfl (qjv hW k b1 (L1Cur.mk code_0 0 0) v5 hx6 hS3) ?_
 rintro v8 h12 ⟨_,c9,rfl,hv10,hS13⟩
 simp only [qd,qa,za,B0,reduceIte,reduceEqDiff]
 have he:=qk hF7
 subst he
 simp only [zp,B0,reduceIte,reduceEqDiff]
 exact ⟨v8,c9,by first | trivial | rfl,hv10,(Sep.dc (Sep.m1 hS13))⟩
theorem qjr {W:Nat→Bool}{h:Heap} (hW:∀ b,
  (geL h.length) b→W b=true) (logs_0:List (List Int)) (r:Election × Bool) (hF:uy logs_0=some r) : Ret E W 49 [lst (cL cI) logs_0] h
  (fun v h'=>∃ rv0_0 rc0_0 rv0_1 rc0_1 rv0_2 rc0_2,v = .tup [.agg [rv0_0,rv0_1,rv0_2],
  .bool r.2]∧SlN Server.R 6 46 rv0_0 r.1.Servers rc0_0∧SlF qe 7 93 rv0_1 r.1.Post rc0_1∧SlF ql 2 39 rv0_2 r.1.Led rc0_2∧Sep h' (geL h.length)
  (rc0_0++(rc0_1++(rc0_2++([]))))):=by
 refine Ret.of (fn:=x49) rfl (Run.of ?_)
 unfold uy at hF
 have zf0:zh [lst (cL cI) logs_0] 0=lst (cL cI) logs_0:=rfl
 generalize zh [lst (cL cI) logs_0]=fr0 at zf0 ⊢
 have hS:Sep h (geL h.length) []:=Sep.nil h
 simp only [x49,qg,qf,jg,B0,reduceIte,reduceEqDiff]
 refine zw hS (fun b1 h2 hS3=>?_)
 simp only [qd,qa,qvb,qg,qf,zf0,zr,qb,zx,qv,B0,reduceIte,reduceEqDiff]
 refine je rfl (qm zb (qm zb (qm zb qz))) (wi (fun b hb=>decide_eq_true hb) (List.length logs_0:Int) 1 5 _ rfl) ?_
 simp only [jj,qb,j9,qa,q0o,ze,B0,reduceIte,reduceEqDiff]
 refine zf (t:=(!(zt (List.length logs_0:Int) 1 5))) (fun hc5=>?_) (fun hc5=>?_)
 ·rw [iteT hc5] at hF
  simp only [qg,qf,run_build,evp,B0,reduceIte,reduceEqDiff]
  refine qh (v := .agg [.nil,.nil,.nil]) rfl ?_
  simp only [zl,B0,reduceIte,reduceEqDiff]
  refine q9 (us:=[.nil,.nil,.nil]) rfl (cs':=[.nil,.nil,.nil]) hS3 hW rfl rfl (nle rfl) rfl (fun h6 hS7=>?_)
  simp only [qd,qa,za,B0,reduceIte,reduceEqDiff]
  have he:=qk hF
  subst he
  refine jt (qm (j6 (bb:=b1) (oo:=0) (v := .agg [.nil,.nil,
    .nil]) (rfl) ((zz (Sep.bk _ _ _ hS7)).trans rfl)) (qm (yn (v := .bool false) (rfl)) qz)) ?_
  exact ⟨.nil,[],.nil,[],.nil,[],by first | trivial | rfl,SlN.nil,SlF.nil,SlF.nil,((Sep.dc (hS7)) : Sep _ (geL h.length) ([]))⟩
 rw [iteF hc5] at hF
 simp only [zi,q6q,qg,qf,run_build,evp,B0,reduceIte,reduceEqDiff]
 refine qh (v := .agg [.nil,.nil,.nil]) rfl ?_
 simp only [jg,B0,reduceIte,reduceEqDiff]
 refine zw hS3 (fun b8 h9 hS10=>?_)
 simp only [zl,B0,reduceIte,reduceEqDiff]
 refine q9 (us:=[.nil,.nil,.nil]) rfl (cs':=[.nil,.nil,.nil]) hS10 hW rfl rfl (nle rfl) rfl (fun h12 hS13=>?_)
 simp only [qa,q03,qg,qf,zf0,qd,zr,qb,zx,B0,reduceIte,reduceEqDiff]
 obtain ⟨oc26,hX28,hk29⟩:=kn hF
 simp only [q43]
 refine wb (σ:=Election) logs_0 (fun i24 x25 s113=>qbo i24 x25 s113) (fun s fr' h'=>∃ v21 c22,
   fr' 2 = .ptr b1 0∧fr' 4 = .ptr b8 0∧fr' 13=lst (cL cI) logs_0∧SlN Server.R 6 46 v21 s.Servers c22∧Sep h' (geL h.length) ([Blk1 b1 [.nil,.nil,
   .nil] 31]++([Blk1 b8 [v21,.nil,.nil] 31]++(c22++([]))))) hX28 ⟨.nil,[],rfl,rfl,rfl,SlN.nil,((Sep.m1 hS13) : Sep _ (geL h.length) ([Blk1 b1 [.nil,.nil,
   .nil] 31]++([Blk1 b8 [.nil,.nil,.nil] 31]++([]))))⟩ (by simp only [B0,reduceIte,reduceEqDiff]) (by simp only [B0,reduceIte,
   reduceEqDiff]) (fun _ _ _ h=>h) rfl rfl (fun _ _ _ _ h=>h) (fun _ _ _ _ h=>h) (fun _ _ _ _ h=>h) (by decide) ?_ ?_
 ·rintro i24 x25 s19 fr38 h39 hx44 ⟨v21,c22,f41,f42,f43,hv23,hS40⟩ f45 f46 oc27 hF30 hr31 Q32 hN33 hB37 hK34 hR35 hE36
  unfold qbo at hF30
  simp only [q63,qg,qf,f43,f45,jr,B0,reduceIte,reduceEqDiff]
  refine qh (v := .ref ((cL cI) x25) 0) (wc hx44 rfl) ?_
  simp only [qo,B0,reduceIte,reduceEqDiff]
  refine qh (v:=lst cI x25) rfl ?_
  obtain ⟨v47,hx48,hF49⟩:=qj hF30
  simp only [qd,qa,q4h,qg,qf,qv,B0,reduceIte,reduceEqDiff]
  refine je rfl (qm zm qz) (qcn (fun b hb=>decide_eq_true hb) x25 v47 hx48) ?_
  simp only [jj,qb,j9,qd,B0,reduceIte,reduceEqDiff]
  obtain ⟨v53,hx54,hF55⟩:=qj hF49
  refine z7 4 (fun fr' h'=>Sep h' (geL h.length) ([Blk1 b1 [.nil,.nil,.nil] 31]++([Blk1 b8 [v21,.nil,
    .nil] 31]++(c22++([]))))∧fr' 26 = .bool v53∧fr' 2 = .ptr b1 0∧fr' 4 = .ptr b8 0∧fr' 6=lst cI x25∧fr' 13=lst (cL cI) logs_0∧fr' 14 = .int .i64
    (List.length logs_0:Int)∧fr' 15 = .int .i64 (i24:Int)) (fun Q50 hN51=>?_) ?_
  ·simp only [List.take_succ_cons,List.take_zero]
   simp only [qc (g:=22),B0,reduceIte,reduceEqDiff]
   refine qy (t:=(!v47)) (fun hg52=>?_) (fun hg52=>?_)
   ·rw [iteT hg52] at hx54
    simp only [hg52,qc (g:=22),zq,qs,qb,zj,qa,qn,B0,reduceIte,reduceEqDiff]
    have e56:=qk hx54
    exact hN51 _ _ ⟨(Sep.m2 (Sep.m2 (Sep.m2 hS40))),by rw [←e56]; simp only [B0,reduceIte,reduceEqDiff],f41,f42,rfl,f43,f46,f45⟩
   ·rw [iteF hg52] at hx54
    obtain ⟨v57,hx58,hF59⟩:=qj hx54
    simp only [hg52,qc (g:=22),qp,qd,qv,B0,reduceIte,reduceEqDiff]
    refine je rfl (qm zm qz) (qbr (fun b hb=>decide_eq_true hb) x25 v57 hx58) ?_
    simp only [hg52,qc (g:=22),qp,qx,qb,xb,qs,zk,qa,qn,B0,reduceIte,reduceEqDiff]
    have e60:=qk hF59
    exact hN51 _ _ ⟨(Sep.m2 (Sep.m2 (Sep.m2 hS40))),by rw [←e60]; simp only [B0,reduceIte,reduceEqDiff],f41,f42,rfl,f43,f46,f45⟩
  rintro fr61 h69 ⟨hS70,f62,f63,f64,f65,f66,f67,f68⟩
  simp only [List.drop_succ_cons,List.drop_zero]
  simp only [qa,q0e,f62,ze,B0,reduceIte,reduceEqDiff]
  refine zf (t:=v53) (fun hc71=>?_) (fun hc71=>?_)
  ·rw [iteT hc71] at hF55
   simp only [qg,qf,run_build,evp,B0,reduceIte,reduceEqDiff]
   refine qh (v := .agg [.nil,.nil,.nil]) rfl ?_
   simp only [f63,zl,B0,reduceIte,reduceEqDiff]
   refine q9 (us:=[.nil,.nil,.nil]) rfl (cs':=[.nil,.nil,.nil]) hS70 hW rfl rfl (nle rfl) rfl (fun h72 hS73=>?_)
   simp only [qd,qa,za,B0,reduceIte,reduceEqDiff]
   have e74:=qk hF55
   subst e74
   have ho75:=hr31 _ rfl
   have hk76:=hk29
   rw [ho75] at hk76
   dsimp only [jnO] at hk76
   apply hR35
   have he:=qk hk76
   subst he
   refine jt (qm (j6 (bb:=b1) (oo:=0) (v := .agg [.nil,.nil,
     .nil]) (f63) ((zz (Sep.bk _ _ _ hS73)).trans rfl)) (qm (yn (v := .bool false) (rfl)) qz)) ?_
   exact ⟨.nil,[],.nil,[],.nil,[],by first | trivial | rfl,SlN.nil,SlF.nil,SlF.nil,((Sep.dc ((Sep.dc ((Sep.dc (hS73)))))) : Sep _ (geL h.length) ([]))⟩
  rw [iteF hc71] at hF55
  simp only [zi,q5t,jv,f64,qbn,qr,Nat.reduceAdd,Nat.zero_add,Nat.add_zero,q8,ue,B0,reduceIte,reduceEqDiff]
  refine qcw (Sep.ltk (Sep.m1 hS70)) ?_
  refine qw (v:=v21) ((jh (Sep.bk _ _ _ (Sep.m1 hS70))).trans rfl) ?_
  simp only [w6,evp,B0,reduceIte,reduceEqDiff]
  refine wh (n:=1) (f:=cI) ([] : List Int) hS70 rfl rfl (fun v78 c79 h80 hv81 hS82 hq77=>?_)
  simp only [f65,jf,qr,qid,B0,reduceIte,reduceEqDiff]
  obtain ⟨l84,hx85,hF86⟩:=qj hF55
  have hq87:=nwq (fun z hz=>Sep.dj (Sep.m1 (Sep.m1 hS82)) qfq (SlF.rowfp hv81 z hz))
  have hq88:=nwq (fun z hz=>Sep.dj (Sep.m1 (Sep.m2 hS82)) qfq (SlF.rowfp hv81 z hz))
  refine qlk (qsb (fun z hz=>Sep.dj (Sep.m1 (Sep.m2 hS82)) qfq (SlF.rowfp hv81 z hz)) qjz) ?_
  refine wv (f:=cI) hv81 hS82 hW (fun _=>rfl) (fun _=>rfl) (ub (fun _=>rfl)) hx85 (fun v89 c90 h91 hv92 hS93=>?_)
  simp only [qci,evp,B0,reduceIte,reduceEqDiff]
  refine qw (v := .agg [.int .i64 10,.int .i64 (-1),.bool false,.bool false,.nil,v89]) (qeo (qaj (us:=[.int .i64 10]) (vs:=[.int .i64 10,.int .i64 0,
    .bool false,.bool false,.nil,.nil]) rfl rfl (nle rfl) rfl rfl (qaj (us:=[.int .i64 (-1)]) (vs:=[.int .i64 10,.int .i64 (-1),.bool false,.bool false,.nil,
    .nil]) rfl rfl (nle rfl) rfl rfl (qaj (us:=[v89]) (vs:=[.int .i64 10,.int .i64 (-1),.bool false,.bool false,.nil,
    v89]) (js (SlF.one hv92)) rfl (nle rfl) (qq (SlF.one hv92) zo) rfl qfr)))) ?_
  simp only [w6,evp,B0,reduceIte,reduceEqDiff]
  refine qi8 (R:=Server.R) (n:=6) (cs:=[.int .i64 10,.int .i64 (-1),.bool false,.bool false,.nil,
    v89]) (os:=[]++(c90)) (Sep.bi2 (c1:=[]) (c2:=c90) (S:=([Blk1 b1 [.nil,.nil,.nil] 31]++([Blk1 b8 [v21,.nil,
    .nil] 31]++(c22++([]))))) (hS93:Sep _ (geL h.length) (c90++([Blk1 b1 [.nil,.nil,.nil] 31]++([Blk1 b8 [v21,.nil,
    .nil] 31]++(c22++([]))))))) (qaj (us:=[.int .i64 10,.int .i64 (-1),.bool false,.bool false,.nil,v89]) (vs:=[.int .i64 10,.int .i64 (-1),.bool false,
    .bool false,.nil,v89]) rfl rfl (nle rfl) (qq rfl (qq rfl (qq rfl (qq rfl (qq rfl (qq (SlF.one hv92) zo)))))) rfl qfr) (Server.RI (x :=
    (Server.mk 10 (-1) false false [] l84)) SlF.nil hv92) rfl (fun v95 c96 h97 hv98 hS99=>?_)
  simp only [qd2,B0,reduceIte,reduceEqDiff]
  obtain ⟨l101,hx102,hF103⟩:=qj hF86
  refine qll (R:=Server.R) (c:=c22) hv23 hv98 (Sep.m3 hS99) hW Server.RO.len Server.RO.one hx102 (fun v104 c105 h106 hv107 hS108=>?_)
  simp only [f64,jc,qr,Nat.reduceAdd,Nat.zero_add,Nat.add_zero,q8,qbm,B0,reduceIte,reduceEqDiff]
  refine wa (us:=[v104]) (js (SlN.one hv107)) (cs':=[v104,.nil,
    .nil]) (Sep.m2 hS108) hW rfl (qq (SlN.one hv107) zo) (nle rfl) rfl (fun h110 hS111=>?_)
  simp only [zn,qn,B0,reduceIte,reduceEqDiff]
  have e112:=qk hF103
  exact hN33 _ _ _ e112.symm ⟨v104,c105,f63,f64,f66,hv107,(Sep.m2 (Sep.m1 (Sep.m1 hS111)))⟩ (f68) (f67)
 rintro s114 fr119 h120 rfl ⟨v116,c117,f122,f123,f124,hv118,hS121⟩
 dsimp only [jnO] at hk29
 unfold qfx at hk29
 simp only [qg,qf,f123,qo,B0,reduceIte,reduceEqDiff]
 refine qh (v := .agg [v116,.nil,.nil]) ((zz (Sep.bk _ _ _ (Sep.m1 hS121))).trans rfl) ?_
 simp only [f122,zl,B0,reduceIte,reduceEqDiff]
 refine q9 (us:=[v116,.nil,.nil]) rfl (cs':=[v116,.nil,
   .nil]) hS121 hW rfl (qq (SlN.one hv118) (qq rfl (qq rfl zo))) (nle rfl) rfl (fun h125 hS126=>?_)
 simp only [qd,qa,za,B0,reduceIte,reduceEqDiff]
 have he:=qk hk29
 subst he
 refine jt (qm (j6 (bb:=b1) (oo:=0) (v := .agg [v116,.nil,
   .nil]) (f122) ((zz (Sep.bk _ _ _ hS126)).trans rfl)) (qm (yn (v := .bool true) (rfl)) qz)) ?_
 exact ⟨v116,c117,.nil,[],.nil,[],by first | trivial | rfl,hv118,SlF.nil,SlF.nil,((Sep.dc ((Sep.dc (hS126)))) : Sep _ (geL h.length) (c117++([])))⟩
theorem qjq {W:Nat→Bool}{h:Heap} (hW:∀ b,
  (geL h.length) b→W b=true) (logs_0:List (List Int)) (r:Election × Bool) (hF:qbh logs_0=some r) : Ret E W 28 [lst (cL cI) logs_0] h
  (fun v h'=>cut h.length h' E.sz false 9 v=some (.tup [.agg [lst qi r.1.Servers,lst qe r.1.Post,lst ql r.1.Led],.bool r.2])):=by
 refine Ret.of (fn:=x28) rfl (Run.of ?_)
 unfold qbh at hF
 have zf0:zh [lst (cL cI) logs_0] 0=lst (cL cI) logs_0:=rfl
 generalize zh [lst (cL cI) logs_0]=fr0 at zf0 ⊢
 have hS:Sep h (geL h.length) []:=Sep.nil h
 simp only [x28,qg,qf,jg,B0,reduceIte,reduceEqDiff]
 refine zw hS (fun b1 h2 hS3=>?_)
 obtain ⟨v5,hx6,hF7⟩:=qj hF
 simp only [qd,qa,q6a,qg,qf,zf0,qv,B0,reduceIte,reduceEqDiff]
 refine qb7 rfl hS3 (qm zm qz) (qjr (fun b hb=>decide_eq_true hb) logs_0 v5 hx6) ?_
 rintro _ h20 ⟨v8,c9,v12,c13,v16,c17,rfl,hv10,hv14,hv18,hS21⟩
 refine ⟨_,qcv (qq (qbw (qq (SlN.free1 hv10) (qq (SlF.free1 hv14) (qq (SlF.free1 hv18) zo)))) (qq rfl zo)),hS21,
   (jq (SlN.pf hv10 Server.RO) (jq (SlF.pf hv14 (fun _=>rfl)) (jq (SlF.pf hv18 (fun _=>rfl)) uf))),fun h22 hS23=>?_⟩
 have hS24:Sep h22 (geL h.length) (c9++(c13++(c17++([Blk1 b1 [.nil,.nil,.nil] 31]++([]))))):=by simpa only [List.append_assoc,List.nil_append] using hS23
 simp only [yu,qb,yz,yy,zl,B0,reduceIte,reduceEqDiff]
 refine q9 (us:=[v8,v12,v16]) rfl (cs':=[v8,v12,
   v16]) (Sep.m3 hS24) hW rfl (qq (SlN.one hv10) (qq (SlF.one hv14) (qq (SlF.one hv18) zo))) (nle rfl) rfl (fun h25 hS26=>?_)
 simp only [qd,qa,za,B0,reduceIte,reduceEqDiff]
 have he:=qk hF7
 subst he
 refine jt (qm (j6 (bb:=b1) (oo:=0) (v := .agg [v8,v12,
   v16]) (rfl) ((zz (Sep.bk _ _ _ hS26)).trans rfl)) (qm (yn (v := .bool v5.2) (rfl)) qz)) ?_
 exact uz (qm (q7n (qm (SlN.cut hv10 _ (Sep.m1 hS26) (fun _ hb=>hb) rfl Server.RO) (qm (SlF.cut hv14 (Sep.m2 hS26) (fun _ hb=>hb) rfl (fun _=>rfl)
   (fun _=>rfl)) (qm (SlF.cut hv18 (Sep.m3 hS26) (fun _ hb=>hb) rfl (fun _=>rfl) (fun _=>rfl)) qz)))) (qm rfl qz))
end Go.Proofs.Ytpddolihbnfahaa.X
