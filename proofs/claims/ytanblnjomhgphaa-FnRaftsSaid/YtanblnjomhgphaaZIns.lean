/- slices.Delete of owned rows, by its code; slices.Insert of owned rows of numbers, by what it answers. -/
import Derived.Test.YtanblnjomhgphaaZSlW
open Int renaming natCast_nonneg→a36,toNat_natCast→a05
open List renaming all_eq_true→a0x,append_assoc→t7,drop_drop→a2b,drop_left→a3a,flatten_append→a1r,length_append→t9,length_drop→a04,length_take→a0f,mem_of_mem_drop→a2t,mem_of_mem_take→a3c,perm_append_comm→a3p,replicate→a0t,take_append_drop→a18,take_left→a2x,take_take→a11
open Nat renaming add_mul→a2a,le_refl→a0d,min_eq_left→a1u,reduceEqDiff→a8,zero_add→o8
open Option renaming getD_none→a0v,getD_some→a0r,map_none→a02,map_some→a0q
set_option linter.unusedVariables false
set_option linter.unusedSimpArgs false
namespace Go.Proofs.Ytanblnjomhgphaa.X
open Go
def qke (ty n bytes:Nat)(z:List XV) : XCode:=(.seq (.reg false [⟨(some 6),(.mv (.c .nil)),none,0⟩]) (.seq (.reg false [⟨(some 8),(.mv (.t 0)),none,0⟩,⟨(some 9),(.mv (.t 1)),none,0⟩,⟨(some 10),(.mv (.t 2)),none,0⟩,⟨(some 11),(.mv (.t 0)),none,0⟩,⟨(some 12),(.len (.t 11)),none,0⟩,⟨(some 13),(.slc ty n (.t 8) (some (.t 9)) (some (.t 10)) (some (.t 12))),none,0⟩]) (.seq (.seq (.reg false [⟨(some 14),(.mv (.t 1)),none,0⟩,⟨(some 15),(.mv (.t 2)),none,0⟩,⟨(some 16),(.bin .eql (.t 14) (.t 15)),none,0⟩]) (.cond (.t 16) (.seq (.reg false [⟨(some 17),(.mv (.t 0)),none,0⟩,⟨(some 6),(.mv (.t 17)),none,0⟩]) .ret) .skip)) (.seq (.reg false [⟨(some 18),(.mv (.t 0)),none,0⟩,⟨(some 19),(.len (.t 18)),none,0⟩,⟨(some 7),(.mv (.t 19)),none,0⟩]) (.seq (.reg true [⟨(some 20),(.mv (.t 0)),none,4⟩,⟨(some 21),(.mv (.t 1)),none,4⟩,⟨(some 22),(.slc ty n (.t 20) none (some (.t 21)) none),none,4⟩,⟨(some 23),(.mv (.t 0)),none,4⟩,⟨(some 24),(.mv (.t 2)),none,4⟩,⟨(some 25),(.slc ty n (.t 23) (some (.t 24)) none none),none,4⟩,⟨(some 26),(.app ty n bytes (.t 22) (.t 25)),none,3⟩,⟨(some 0),(.mv (.t 26)),none,4⟩]) (.seq (.reg false [⟨(some 27),(.mv (.t 0)),none,0⟩,⟨(some 28),(.mv (.t 0)),none,0⟩,⟨(some 29),(.len (.t 28)),none,0⟩,⟨(some 30),(.mv (.t 7)),none,0⟩,⟨(some 31),(.slc ty n (.t 27) (some (.t 29)) (some (.t 30)) none),none,0⟩,⟨none,(.clr ty z (.t 31)),none,0⟩]) (.seq (.reg false [⟨(some 32),(.mv (.t 0)),none,0⟩,⟨(some 6),(.mv (.t 32)),none,0⟩]) .ret)))))))
def qm9 {α:Type}(l:List α)(i j:Int) : Option (List α):=if 0≤i∧i<j∧j≤l.length then some (l.take i.toNat++l.drop j.toNat) else none
section
variable {E:Env}{W:Nat→Bool}{k:List It}{Q:XV→Heap→Prop}{h:Heap}{lo:Nat→Prop}{S:List Obj}{b:Nat}{ty:TypeId}{α:Type}{R:Rep α}{f:α→List XV}{l l2 l3:List α}{sz:TypeId→Nat}{n bytes:Nat}{v x:XV}{c c2:List Obj}{z cs:List XV}

theorem qrc {A B C J Z:List XV}(hz:Z.length=B.length) : jv (jv (A++(B++(C++J))) A.length C) (A.length+C.length) Z=A++(C++(Z++J)):=by
 have e1:jv (A++(B++(C++J))) A.length C=A++(C++(A++(B++(C++J))).drop (A.length+C.length)):=by
  unfold jv; rw [a2x,t7]
 rw [e1]
 generalize hD:(A++(B++(C++J))).drop (A.length+C.length)=D
 have e2:jv (A++(C++D)) (A.length+C.length) Z=A++(C++(Z++D.drop Z.length)):=by
  unfold jv
  rw [←t7 A C D,← t9,a2x,← a2b,a3a]
  simp
 rw [e2,← hD,a2b,hz,show A.length+C.length+B.length=(A++(B++C)).length by simp; omega,show A++(B++(C++J))=(A++(B++C))++J by simp,a3a]

theorem qmh (hb:z9 h b=some ⟨cs,ty,true⟩) : (h[b]?).map Blk.ty=some ty:=by
 unfold z9 at hb
 split at hb
 ·rename_i kb hk
  rw [hk]
  split at hb
  ·cases hb; rfl
  ·cases hb
 ·cases hb
theorem qr9 {cs':List XV}(hb:z9 h b=some ⟨cs,ty,true⟩) : z9 (h.set b ⟨cs',ty,true⟩) b=some ⟨cs',ty,true⟩:=by
 have hlt:b<h.length:=(qbm hb).2.2
 simp [z9,List.getElem?_set,hlt]
theorem qya {E:Env}{W:Nat→Bool}{k:List It}{Q:QE}{fr:Fr}{d:Option Nat}{r:List XOper}{v:XV}{h:Heap} : Put2 E W (some (v,h)) d r k Q fr=Run E W (.ops r::k) Q (fr.put d v) h:=(rfl)
theorem qq6 {E:Env}{W:Nat→Bool}{k:List It}{Q:QE}{fr:Fr}{d:Option Nat}{r:List XOper}{v:XV}{h:Heap}{hs:Nat}{ld wr:List Nat} : Put2D E W (some (v,h)) d hs r ld wr k Q fr=Run E W (.draw hs r ld wr::k) Q (fr.put d v) h:=(rfl)

theorem qqy {fid:Nat}(hf:E.fns fid=some ⟨qke ty n bytes z,33,[.t 6]⟩){len cap i j:Nat}{A B C J:List XV}(hb:z9 h b=some ⟨A++(B++(C++J)),ty,true⟩)(hWb:W b=true)(hij:i<j)(hjl:j≤len)(hlc:len≤cap)
  (hA:A.length=i*n) (hB:B.length=(j - i)*n) (hC:C.length=(len - j)*n) (h1:C.all XV.one=true) (hz:z.length=n) (hz1:z.all XV.one=true)
  (K:∀ cs1,Q (.row b 0 (i+(len - j)) cap) ((h.set b ⟨cs1,ty,true⟩).set b ⟨A++(C++((a0t (j - i) z).flatten++J)),ty,true⟩)) : Ret E W fid [.row b 0 len cap,.int .i64 (i:Int),.int .i64 (j:Int)] h Q:=by
 have hAB:(A++B).length=j*n:=by rw [t9,hA,hB,← a2a]; congr 1; omega
 have hZ:(a0t (j - i) z).flatten.length=(j - i)*n:=by simp [hz]
 refine Ret.of hf (Run.of ?_)
 have zf0:zk [.row b 0 len cap,.int .i64 (i:Int),.int .i64 (j:Int)] 0 = .row b 0 len cap:=rfl
 have zf1:zk [.row b 0 len cap,.int .i64 (i:Int),.int .i64 (j:Int)] 1 = .int .i64 (i:Int):=rfl
 have zf2:zk [.row b 0 len cap,.int .i64 (i:Int),.int .i64 (j:Int)] 2 = .int .i64 (j:Int):=rfl
 generalize zk [.row b 0 len cap,.int .i64 (i:Int),.int .i64 (j:Int)]=fr0 at zf0 zf1 zf2 ⊢
 simp only [qke,qf,qe,qa,qg,zq,qb,qlf,qhb,zf0,zf1,zf2,a0q,a02,B0,reduceIte,a8]
 refine qd (v := .row b (0+i*n) (j - i) (len - i)) ?_ ?_
 ·simp only [w9,yc,a36,if_true,a05,yy,a0r]
  rw [if_pos ⟨by omega,hjl,hlc,fun _=>rfl,qmh hb⟩]
 simp only [qa,qf,qe,qg,qx,zf0,zf1,zf2,B0,reduceIte,a8]
 refine qd (v := .bool false) ?_ ?_
 ·simp only [wq,if_true]
  rw [show ((i:Int) == (j:Int))=false by simp; omega]
 simp only [qa,qf,qe,q8,qjj,zd,qg,zq,qb,qlf,jg,zz,qi,qgm,zf0,zf1,zf2,a0q,a02,B0,reduceIte,a8]
 refine qq (v := .row b 0 i cap) ?_ ?_
 ·simp only [w9,yc,a36,if_true,a05,yy,a0r,a0v]
  rw [if_pos ⟨Nat.zero_le _,by omega,a0d _,(fun h=>by cases h),qmh hb⟩]
  simp
 simp only [zz,qi,qgm,zf0,zf1,zf2,a0q,a02,B0,reduceIte,a8]
 refine qq (v := .row b (0+j*n) (len - j) (cap - j)) ?_ ?_
 ·simp only [w9,yc,a36,if_true,a05,yy,a0r,a0v]
  rw [if_pos ⟨hjl,hlc,a0d _,(fun h=>by cases h),qmh hb⟩]
 simp only [qgp,B0,reduceIte,a8]
 have e1:xd W h ty n bytes (.row b 0 i cap) (.row b (0+j*n) (len - j) (cap - j))=some (.row b 0 (i+(len - j)) cap,h.set b ⟨jv (A++(B++(C++J))) (0+i*n) C,ty,true⟩):=by
  have hfo:yd h n (.row b (0+j*n) (len - j) (cap - j))=some (len - j,C):=by
   unfold yd
   dsimp only
   rw [qf2 hb,if_pos (by simp only [t9] at hAB ⊢; omega),o8,← hAB,← t7 A B,a3a,← hC,a2x]
  unfold xd
  simp only [ze,XO.ev,hfo]
  rw [if_pos (by omega),qkc hWb hb (by simp only [t9] at hAB ⊢; omega) h1]
 rw [e1,qq6]
 simp only [zz,qi,za,qf,qe,qg,zq,qb,qlf,qhb,a0q,a02,B0,reduceIte,a8]
 have hb1:=qr9 (cs':=jv (A++(B++(C++J))) (0+i*n) C) hb
 refine qd (v := .row b (0+(i+(len - j))*n) (len - (i+(len - j))) (cap - (i+(len - j)))) ?_ ?_
 ·simp only [w9,yc,a36,if_true,a05,yy,a0r,a0v]
  rw [if_pos ⟨by omega,hlc,a0d _,(fun h=>by cases h),qmh hb1⟩]
 simp only [zao,B0,reduceIte,a8]
 have hsl:(jv (A++(B++(C++J))) (0+i*n) C).length=(A++(B++(C++J))).length:=qeq _ _ _ (by simp only [t9] at hAB ⊢; omega)
 have e2:q0u W (h.set b ⟨jv (A++(B++(C++J))) (0+i*n) C,ty,true⟩) ty z (.row b (0+(i+(len - j))*n) (len - (i+(len - j))) (cap - (i+(len - j))))=some (.tup [],(h.set b ⟨jv (A++(B++(C++J))) (0+i*n) C,ty,true⟩).set b ⟨A++(C++((a0t (j - i) z).flatten++J)),ty,true⟩):=by
  have e0:q0u W (h.set b ⟨jv (A++(B++(C++J))) (0+i*n) C,ty,true⟩) ty z (.row b (0+(i+(len - j))*n) (len - (i+(len - j))) (cap - (i+(len - j))))=if len - (i+(len - j))=0 then some (.tup [],h.set b ⟨jv (A++(B++(C++J))) (0+i*n) C,ty,true⟩) else (match setCells W (h.set b ⟨jv (A++(B++(C++J))) (0+i*n) C,ty,true⟩) b (0+(i+(len - j))*n) (a0t (len - (i+(len - j))) z).flatten with | some h'=>some (.tup [],h') | none=>none):=rfl
  have e3:len - (i+(len - j))=j - i:=by omega
  have e4:(i+(len - j))*n=A.length+C.length:=by rw [a2a,hA,hC]
  rw [e0,if_neg (by omega),e3,qkc hWb hb1 (by rw [hsl,hZ,e4]; simp only [t9] at hAB ⊢; omega) (by
   rw [List.all_flatten,a0x]
   intro x hx
   rw [(List.mem_replicate.1 hx).2]
   exact hz1),o8,o8,e4,← hA,qrc (by rw [hZ,hB])]
 rw [e2,qya]
 simp only [qa,qf,qe,qg,zc,zr,B0,reduceIte,a8]
 exact K _
theorem qn0 {i j:Int}(h:qm9 l i j=some l2) : ∃ I J:Nat,i=I∧j=J∧I<J∧J≤l.length∧l2=l.take I++l.drop J:=by
 unfold qm9 at h
 split at h
 case isFalse=>cases h
 rename_i hc
 cases h
 exact ⟨i.toNat,j.toNat,by omega,by omega,by omega,by omega,rfl⟩
theorem qqw (hz:z.all XV.free1=true){m:Nat}{J:List XV}(hJ:J.all XV.free1=true) : ((a0t m z).flatten++J).all XV.free1=true:=by
 rw [List.all_append,hJ,Bool.and_true,List.all_flatten,a0x]
 intro x hx
 rw [(List.mem_replicate.1 hx).2]
 exact hz
theorem All3.take {css:List (List XV)}{oss:List (List Obj)}(H:All3 R l css oss) : ∀ i,All3 R (l.take i) (css.take i) (oss.take i):=by
 induction H with
 | nil=>intro i; simpa using .nil
 | cons h H ih =>
  intro i
  cases i with
  | zero=>exact .nil
  | succ i=>exact .cons h (ih i)
theorem All3.drop {css:List (List XV)}{oss:List (List Obj)}(H:All3 R l css oss) : ∀ i,All3 R (l.drop i) (css.drop i) (oss.drop i):=by
 induction H with
 | nil=>intro i; simpa using .nil
 | cons h H ih =>
  intro i
  cases i with
  | zero=>exact .cons h H
  | succ i=>exact ih i
theorem qze {css:List (List XV)}(h:∀ cs∈css,cs.length=n) : css.flatten.length=css.length*n:=by
 induction css with
 | nil=>simp
 | cons a r ih=>rw [List.flatten_cons,t9,ih (fun cs hcs=>h cs (by simp [hcs])),h a (by simp),List.length_cons,Nat.succ_mul]; omega
theorem zbf {fid:Nat}(hf:E.fns fid=some ⟨qke ty n bytes z,33,[.t 6]⟩)(hn:∀ {x cs os},R x cs os→cs.length=n)(h1:∀ {x cs os},R x cs os→cs.all XV.one=true)(hz:z.length=n)(hz1:z.all XV.one=true)(hzf:z.all XV.free1=true)(hW:∀ b,lo b→W b=true)(H:SlN R n ty v l c){i j:Int}(hd:qm9 l i j=some l2)(hS:Sep h lo (c++S)) :
  Ret E W fid [v,.int .i64 i,.int .i64 j] h (fun v' h'=>∃ rv rc,v'=rv∧SlN R n ty rv l2 rc∧Sep h' lo (rc++S)):=by
 obtain ⟨I,J,rfl,rfl,hij,hjl,rfl⟩:=qn0 hd
 rcases H with ⟨_,rfl,_⟩ | ⟨b,cap,junk,css,oss,rfl,hcp,hj,hjf,H3,hp⟩
 ·simp at hjl; omega
 have hS1:Sep h lo ((Blk1 b (css.flatten++junk) ty::oss.flatten)++S):=hS.cperm hp
 have hb:=Sep.blk0 hS1
 have hl:=H3.lens hn
 have hcl:=H3.len.1
 have hls:∀ {css':List (List XV)},(∀ c∈css',c∈css)→css'.flatten.length=css'.length*n:=fun hs=>qze (fun c hc=>hl c (hs c hc))
 have e1:css.flatten++junk=(css.take I).flatten++(((css.take J).drop I).flatten++((css.drop J).flatten++junk)):=by
  have h1:css.take I=(css.take J).take I:=by rw [a11,a1u (by omega)]
  have h0:css=css.take I++((css.take J).drop I++css.drop J):=by rw [←t7,h1,a18,a18]
  conv=>lhs; rw [h0]
  simp only [a1r,t7]
 rw [e1] at hb
 refine qqy hf hb (hW b (Sep.ge (S:=oss.flatten++S) hS1)) hij hjl hcp (by rw [hls (fun c hc=>a3c hc),a0f]; congr 1; omega) (by rw [hls (fun c hc=>a3c (a2t hc)),a04,a0f]; congr 1; omega) (by rw [hls (fun c hc=>a2t hc),a04]; congr 1; omega) ?_ hz hz1 (fun cs1=>?_)
 ·exact (H3.drop J).one h1
 have hS2:=Sep.set (Sep.set hS1 cs1) ((css.take I).flatten++((css.drop J).flatten++((a0t (J - I) z).flatten++junk)))
 have hlen:(l.take I++l.drop J).length=I+(l.length - J):=by simp; omega
 have hos:(oss.flatten).Perm ((oss.take I++oss.drop J).flatten++((oss.take J).drop I).flatten):=by
  have h1:oss=(oss.take I++(oss.take J).drop I)++oss.drop J:=by
   have h1:oss.take I=(oss.take J).take I:=by rw [a11,a1u (by omega)]
   rw [h1,a18,a18]
  conv=>lhs; rw [h1]
  rw [a1r,a1r,a1r,t7,t7]
  exact List.Perm.append_left _ a3p
 have hS3:∀ {h':Heap},Sep h' lo (Blk1 b ((css.take I).flatten++((css.drop J).flatten++((a0t (J - I) z).flatten++junk))) ty::(oss.flatten++S))→Sep h' lo ((Blk1 b ((css.take I++css.drop J).flatten++((a0t (J - I) z).flatten++junk)) ty::(oss.take I++oss.drop J).flatten)++S):=by
  intro h' hS2
  refine Sep.dc (c0:=((oss.take J).drop I).flatten) (hS2.perm ?_)
  rw [a1r (L₁:=css.take I),t7]
  rw [List.cons_append]
  refine List.Perm.trans ?_ List.perm_middle.symm
  refine List.Perm.cons _ ?_
  rw [←t7]
  exact (hos.trans a3p).append_right S
 refine ⟨_,_,rfl,.inr ⟨b,cap,(a0t (J - I) z).flatten++junk,css.take I++css.drop J,oss.take I++oss.drop J,by rw [hlen],by omega,?_,qqw hzf hjf,(H3.take I).app (H3.drop J),List.Perm.refl _⟩,hS3 hS2⟩
 rw [hlen,t9,hj]
 have:(a0t (J - I) z).flatten.length=(J - I)*n:=by simp [hz]
 rw [this,← a2a]
 congr 1
 omega
end
section
variable {E:Env}{W:Nat→Bool}{h:Heap}{lo:Nat→Prop}{S:List Obj}{ty:TypeId}{l l2:List Int}{v x:XV}{c c2:List Obj}
end
end Go.Proofs.Ytanblnjomhgphaa.X
